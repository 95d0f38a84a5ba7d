/- A part of the proof: texts S7B, S7C, S7D, S7E, S7F, S7G, S7I, S7J, S7K, S7L, S7Q, S7M, S7R, S7V, S7T, S7A, S7AA, S7AB, S7AC, S7AD, S7AE, S7AF, S7AG, S7AH, S7AI: see the last part's opening words. -/
import Derived.Test.YtdhldbjjdlnbmaaGreatQ
set_option linter.unusedVariables false
set_option linter.unusedSimpArgs false
set_option linter.unnecessarySimpa false
namespace Go.Proofs.YtdhldbjjdlnbmaaGreat
open Go Go.E Go.Proofs
theorem wrap_u64 {x : Int} (h1 : 0 ≤ x) (h2 : x < 18446744073709551616) : IntKind.u64.wrap x = x := by
  have e64 : (2 : Int) ^ 64 = 18446744073709551616 := by decide
  simp only [IntKind.wrap, IntKind.bits, IntKind.signed, Bool.false_and, Bool.false_eq_true, if_false, e64]
  omega
theorem fdiv_nat (x n : Nat) : Int.fdiv (x : Int) ((2 : Int) ^ n) = ((x / 2 ^ n : Nat) : Int) := by
  have e : ((2 : Int) ^ n) = ((2 ^ n : Nat) : Int) := by simp
  rw [e, Int.fdiv_eq_ediv_of_nonneg _ (Int.natCast_nonneg _)]
  rfl
theorem turn_ok {m x n : Nat} {z : Int} (hm : 1 ≤ m) (hx : x < 4294967296) (h1 : 1 ≤ n) (h2 : n ≤ 31) (hz : z = (n : Int)) (k : T → An) : S_l2Turn m (.i (x : Int)) (.i z) k = k (.i (rotN x n : Nat)) := by
  subst hz
  obtain ⟨m, rfl⟩ : ∃ m', m = m' + 1 := ⟨m - 1, by omega⟩
  have e1 : IntKind.u64.wrap (n : Int) = n := wrap_u64 (by omega) (by omega)
  have e2 : IntKind.i64.wrap (32 - (n : Int)) = ((32 - n : Nat) : Int) := by rw [wrap_i64 (by omega) (by omega)]; omega
  have e3 : IntKind.u64.wrap (((32 - n : Nat) : Int)) = ((32 - n : Nat) : Int) := wrap_u64 (by omega) (by omega)
  have e4 : min n IntKind.i64.bits = n := Nat.min_eq_left (by show n ≤ 64; omega)
  have e5 : min (32 - n) IntKind.i64.bits = 32 - n := Nat.min_eq_left (by show 32 - n ≤ 64; omega)
  have p1 : 2 ^ (32 - n) ≤ 2147483648 := Nat.le_trans (Nat.pow_le_pow_right (by omega) (show 32 - n ≤ 31 by omega)) (by decide)
  have p2 : x * 2 ^ (32 - n) < 9223372036854775808 := by
    have : x * 2 ^ (32 - n) ≤ 4294967295 * 2147483648 := Nat.mul_le_mul (by omega) p1
    omega
  have p3 : x / 2 ^ n ≤ x := Nat.div_le_self _ _
  have e6 : IntKind.i64.wrap ((x : Int) * 2 ^ (32 - n)) = ((x * 2 ^ (32 - n) : Nat) : Int) := by
    have e : (x : Int) * 2 ^ (32 - n) = ((x * 2 ^ (32 - n) : Nat) : Int) := by simp
    rw [e, wrap_i64 (by omega) (by omega)]
  simp only [S_l2Turn, T.int_i, e1, e2, e3, Int.toNat_natCast, e4, e5, fdiv_nat, e6]
  rw [dec_t (by omega), dec_t (by omega), or64 (by omega) p2]
  have p4 : x / 2 ^ n ||| x * 2 ^ (32 - n) < 9223372036854775808 := Nat.or_lt_two_pow (n := 63) (by omega) p2
  simp only [T.int_i]
  rw [mask64 p4]
  rfl
end Go.Proofs.YtdhldbjjdlnbmaaGreat

namespace Go.Proofs.YtdhldbjjdlnbmaaGreat
open Go Go.E Go.Proofs
def nr (l : List Nat) : List (List T) := l.map fun (x : Nat) => [T.i (Int.ofNat x)]
theorem nr_len (l : List Nat) : (nr l).length = l.length := by simp [nr]
theorem nr_app (a b : List Nat) : nr (a ++ b) = nr a ++ nr b := by simp [nr]
theorem nr_snoc (a : List Nat) (x : Nat) : nr a ++ [[T.i (x : Int)]] = nr (a ++ [x]) := by simp [nr]
theorem nr_get (l : List Nat) (i : Nat) (h : i < l.length) : ((nr l).getD i []).getD 0 dflt = .i ((l.getD i 0 : Nat) : Int) := by
  simp [nr, List.getD, h]
theorem padL0 (m : Nat) (x0 : T) : ∀ (z : Nat) (l : List Nat), z = (120 - l.length % 64) % 64 → l.length + z ≤ 1099511627776 → ∀ n, z < n → ∀ k0,
    S_Padded_L0_0 m n x0 (.l (nr l)) k0 = k0 x0 (.l (nr (l ++ List.replicate z 0)))
  | 0, l, hz, hl, n, hn, k0 => by
    obtain ⟨n, rfl⟩ : ∃ m', n = m' + 1 := ⟨n - 1, by omega⟩
    have e : Int.tmod (l.length : Int) 64 = 56 := by
      rw [show (64 : Int) = ((64 : Nat) : Int) from rfl, ← Int.ofNat_tmod]; omega
    simp only [S_Padded_L0_0, T.rows_l, nr_len, e]
    simp
  | z + 1, l, hz, hl, n, hn, k0 => by
    obtain ⟨n, rfl⟩ : ∃ m', n = m' + 1 := ⟨n - 1, by omega⟩
    have e : Int.tmod (l.length : Int) 64 = ((l.length % 64 : Nat) : Int) := by
      rw [show (64 : Int) = ((64 : Nat) : Int) from rfl, ← Int.ofNat_tmod]
    have ih := padL0 m x0 z (l ++ [0]) (by simp; omega) (by simp; omega) n (by omega) k0
    simp only [S_Padded_L0_0, T.rows_l, nr_len, e]
    rw [cond_t (by simp; omega), dec_t (by unfold maxRow; omega)]
    rw [show nr l ++ [[T.i 0]] = nr (l ++ [0]) from nr_snoc l 0, ih]
    simp [List.replicate_succ]
def tailB (N : Nat) : Nat → List Nat
  | 0 => []
  | j + 1 => (N / 2 ^ (8 * j)) % 256 :: tailB N j
theorem wrap_u8 (x : Nat) : IntKind.u8.wrap (x : Int) = ((x % 256 : Nat) : Int) := by
  have e : (2 : Int) ^ 8 = 256 := by decide
  simp only [IntKind.wrap, IntKind.bits, IntKind.signed, Bool.false_and, Bool.false_eq_true, if_false, e]
  omega
theorem padL1 (m N : Nat) : ∀ (j : Nat), j ≤ 8 → ∀ (l : List Nat), l.length + j ≤ 1099511627776 → ∀ n, j < n → ∀ k0,
    S_Padded_L1_0 m n (.i (N : Int)) (.i (8 * (j : Int) - 8)) (.l (nr l)) k0 = k0 (.l (nr (l ++ tailB N j)))
  | 0, _, l, hl, n, hn, k0 => by
    obtain ⟨n, rfl⟩ : ∃ m', n = m' + 1 := ⟨n - 1, by omega⟩
    simp only [S_Padded_L1_0, T.rows_l, T.int_i, tailB, List.append_nil]
    rw [dec_f (by simp)]
  | j + 1, hj, l, hl, n, hn, k0 => by
    obtain ⟨n, rfl⟩ : ∃ m', n = m' + 1 := ⟨n - 1, by omega⟩
    have ih := padL1 m N j (by omega) (l ++ [(N / 2 ^ (8 * j)) % 256]) (by simp; omega) n (by omega) k0
    have e1 : (8 * ((j + 1 : Nat) : Int) - 8) = ((8 * j : Nat) : Int) := by omega
    have e2 : IntKind.u64.wrap (((8 * j : Nat)) : Int) = ((8 * j : Nat) : Int) := wrap_u64 (by omega) (by omega)
    have e3 : min (8 * j) IntKind.i64.bits = 8 * j := Nat.min_eq_left (by show 8 * j ≤ 64; omega)
    have e4 : IntKind.i64.wrap (((8 * j : Nat) : Int) - 8) = 8 * (j : Int) - 8 := by rw [wrap_i64 (by omega) (by omega)]; omega
    simp only [S_Padded_L1_0, T.rows_l, T.int_i, e1, e2, Int.toNat_natCast, e3, e4, nr_len, fdiv_nat, wrap_u8]
    rw [dec_t (by omega), dec_t (by omega), dec_t (by unfold maxRow; omega), nr_snoc, ih]
    simp [tailB]
theorem pad_ok {m : Nat} (l : List Nat) (hl : l.length ≤ 1073741824) (hm : 200 ≤ m) (k : T → An) : S_Padded m (.l (nr l)) k = k (.l (nr (padN l))) := by
  obtain ⟨m, rfl⟩ : ∃ m', m = m' + 1 := ⟨m - 1, by omega⟩
  simp only [S_Padded, T.rows_l, nr_len]
  rw [dec_t (by unfold maxRow; omega), dec_t (by unfold maxRow; omega), show nr l ++ [[T.i 128]] = nr (l ++ [128]) from nr_snoc l 128]
  rw [padL0 m _ ((119 - l.length % 64) % 64) (l ++ [128]) (by simp; omega) (by simp; omega) m (by omega)]
  simp only [T.rows_l, nr_len]
  have e : IntKind.i64.wrap ((l.length : Int) * 8) = ((8 * l.length : Nat) : Int) := by rw [wrap_i64 (by omega) (by omega)]; omega
  rw [e]
  have := padL1 m (8 * l.length) 8 (by omega) (l ++ [128] ++ List.replicate ((119 - l.length % 64) % 64) 0) (by simp; omega) m (by omega) (fun y2 => k (.l y2.rows))
  rw [show (8 * ((8 : Nat) : Int) - 8) = 56 from rfl] at this
  rw [this]
  rfl
end Go.Proofs.YtdhldbjjdlnbmaaGreat

namespace Go.Proofs.YtdhldbjjdlnbmaaGreat
open Go Go.E Go.Proofs
theorem nr_i (l : List Nat) (i : Nat) (h : i < l.length) : (((nr l).getD i []).getD 0 dflt).int = ((l.getD i 0 : Nat) : Int) := by rw [nr_get l i h]; rfl
theorem wrapN {x : Nat} (h : x < 9223372036854775808) : IntKind.i64.wrap (x : Int) = (x : Int) := wrap_i64 (by omega) (by omega)
def beW (a b c d : Nat) : Nat := ((a * 2 ^ 24 ||| b * 2 ^ 16) ||| c * 2 ^ 8) ||| d
theorem be_ok {a b c d : Nat} (ha : a < 256) (hb : b < 256) (hc : c < 256) (hd : d < 256) :
    (bvBack .i64 (BitVec.ofInt IntKind.i64.bits (bvBack .i64 (BitVec.ofInt IntKind.i64.bits (bvBack .i64 (BitVec.ofInt IntKind.i64.bits (IntKind.i64.wrap ((IntKind.i64.wrap (a : Int)) * 2 ^ (min (Int.toNat 24) IntKind.i64.bits))) ||| BitVec.ofInt IntKind.i64.bits (IntKind.i64.wrap ((IntKind.i64.wrap (b : Int)) * 2 ^ (min (Int.toNat 16) IntKind.i64.bits))))).int ||| BitVec.ofInt IntKind.i64.bits (IntKind.i64.wrap ((IntKind.i64.wrap (c : Int)) * 2 ^ (min (Int.toNat 8) IntKind.i64.bits))))).int ||| BitVec.ofInt IntKind.i64.bits (IntKind.i64.wrap (d : Int)))) = .i ((beW a b c d : Nat) : Int) := by
  have e1 : ∀ x : Nat, (x : Int) * 2 ^ (min (Int.toNat 24) IntKind.i64.bits) = ((x * 2 ^ 24 : Nat) : Int) := fun x => by rw [show min (Int.toNat 24) IntKind.i64.bits = 24 from rfl]; simp
  have e2 : ∀ x : Nat, (x : Int) * 2 ^ (min (Int.toNat 16) IntKind.i64.bits) = ((x * 2 ^ 16 : Nat) : Int) := fun x => by rw [show min (Int.toNat 16) IntKind.i64.bits = 16 from rfl]; simp
  have e3 : ∀ x : Nat, (x : Int) * 2 ^ (min (Int.toNat 8) IntKind.i64.bits) = ((x * 2 ^ 8 : Nat) : Int) := fun x => by rw [show min (Int.toNat 8) IntKind.i64.bits = 8 from rfl]; simp
  have p1 : a * 2 ^ 24 ||| b * 2 ^ 16 < 9223372036854775808 := Nat.or_lt_two_pow (n := 63) (by omega) (by omega)
  have p2 : (a * 2 ^ 24 ||| b * 2 ^ 16) ||| c * 2 ^ 8 < 9223372036854775808 := Nat.or_lt_two_pow (n := 63) p1 (by omega)
  rw [wrapN (x := a) (by omega), wrapN (x := b) (by omega), wrapN (x := c) (by omega), wrapN (x := d) (by omega), e1, e2, e3, wrapN (x := a * 2 ^ 24) (by omega), wrapN (x := b * 2 ^ 16) (by omega), wrapN (x := c * 2 ^ 8) (by omega),
    or64 (by omega) (by omega)]
  simp only [T.int_i]
  rw [or64 p1 (by omega)]
  simp only [T.int_i]
  rw [or64 p2 (by omega)]
  rfl
theorem beW_lt {a b c d : Nat} (ha : a < 256) (hb : b < 256) (hc : c < 256) (hd : d < 256) : beW a b c d < 4294967296 :=
  Nat.or_lt_two_pow (n := 32) (Nat.or_lt_two_pow (n := 32) (Nat.or_lt_two_pow (n := 32) (by omega) (by omega)) (by omega)) (by omega)
def wAt (b : List Nat) (i : Nat) : Nat := beW (b.getD (4 * i) 0) (b.getD (4 * i + 1) 0) (b.getD (4 * i + 2) 0) (b.getD (4 * i + 3) 0)
theorem w16_eq (b : List Nat) : w16 b = (List.range 16).map (wAt b) := rfl
def Bytes (b : List Nat) : Prop := ∀ i, b.getD i 0 < 256
theorem wL0 (m : Nat) (b : List Nat) (hb : Bytes b) (hl : 64 ≤ b.length) : ∀ (j i : Nat), i + j = 16 → ∀ n, j < n → ∀ k0,
    S_l2Words_L0_0 m n (.l (nr b)) (.i (i : Int)) (.l (nr ((List.range i).map (wAt b)))) k0 = k0 (.l (nr (w16 b)))
  | 0, i, h, n, hn, k0 => by
    obtain ⟨n, rfl⟩ : ∃ m', n = m' + 1 := ⟨n - 1, by omega⟩
    have : i = 16 := by omega
    subst this
    simp only [S_l2Words_L0_0, T.rows_l, T.int_i]
    rw [dec_f (by omega)]
    rfl
  | j + 1, i, h, n, hn, k0 => by
    obtain ⟨n, rfl⟩ : ∃ m', n = m' + 1 := ⟨n - 1, by omega⟩
    have ih := wL0 m b hb hl j (i + 1) (by omega) n (by omega) k0
    have f0 : IntKind.i64.wrap (4 * (i : Int)) = ((4 * i : Nat) : Int) := by rw [wrap_i64 (by omega) (by omega)]; omega
    have f1 : IntKind.i64.wrap (((4 * i : Nat) : Int) + 1) = ((4 * i + 1 : Nat) : Int) := by rw [wrap_i64 (by omega) (by omega)]; omega
    have f2 : IntKind.i64.wrap (((4 * i : Nat) : Int) + 2) = ((4 * i + 2 : Nat) : Int) := by rw [wrap_i64 (by omega) (by omega)]; omega
    have f3 : IntKind.i64.wrap (((4 * i : Nat) : Int) + 3) = ((4 * i + 3 : Nat) : Int) := by rw [wrap_i64 (by omega) (by omega)]; omega
    have f4 : IntKind.i64.wrap ((i : Int) + 1) = ((i + 1 : Nat) : Int) := by rw [wrap_i64 (by omega) (by omega)]; omega
    simp only [S_l2Words_L0_0, T.rows_l, T.int_i, f0, f1, f2, f3, f4, Int.toNat_natCast, nr_len, nr_i b (4 * i) (by omega), nr_i b (4 * i + 1) (by omega), nr_i b (4 * i + 2) (by omega), nr_i b (4 * i + 3) (by omega), be_ok (hb _) (hb _) (hb _) (hb _)]
    rw [dec_t (by omega), dec_t (by omega), dec_t (by omega), dec_t (by omega), dec_t (by omega), dec_t (by simp; unfold maxRow; omega)]
    have e : (nr ((List.range i).map (wAt b)) ++ [[T.i ((beW (b.getD (4 * i) 0) (b.getD (4 * i + 1) 0) (b.getD (4 * i + 2) 0) (b.getD (4 * i + 3) 0) : Nat) : Int)]]) = nr ((List.range (i + 1)).map (wAt b)) := by
      rw [nr_snoc, List.range_succ, List.map_append]; rfl
    rw [e]
    exact ih
end Go.Proofs.YtdhldbjjdlnbmaaGreat

namespace Go.Proofs.YtdhldbjjdlnbmaaGreat
open Go Go.E Go.Proofs
def W32 (w : List Nat) : Prop := ∀ i, w.getD i 0 < 4294967296
theorem xor3_ok {a b c : Nat} (ha : a < 4294967296) (hb : b < 4294967296) (hc : c < 4294967296) :
    bvBack .i64 (BitVec.ofInt IntKind.i64.bits (bvBack .i64 (BitVec.ofInt IntKind.i64.bits (a : Int) ^^^ BitVec.ofInt IntKind.i64.bits (b : Int))).int ^^^ BitVec.ofInt IntKind.i64.bits (c : Int)) = .i ((a ^^^ b ^^^ c : Nat) : Int) := by
  have p1 : a ^^^ b < 4294967296 := Nat.xor_lt_two_pow (n := 32) ha hb
  rw [xor64 (by omega) (by omega)]
  simp only [T.int_i]
  rw [xor64 (by omega) (by omega)]
theorem sg0_lt {x : Nat} (h : x < 4294967296) : sg0 x < 4294967296 := Nat.xor_lt_two_pow (n := 32) (Nat.xor_lt_two_pow (n := 32) (rotN_lt _ _) (rotN_lt _ _)) (Nat.lt_of_le_of_lt (Nat.div_le_self _ _) h)
theorem sg1_lt {x : Nat} (h : x < 4294967296) : sg1 x < 4294967296 := Nat.xor_lt_two_pow (n := 32) (Nat.xor_lt_two_pow (n := 32) (rotN_lt _ _) (rotN_lt _ _)) (Nat.lt_of_le_of_lt (Nat.div_le_self _ _) h)
theorem W32_snoc {w : List Nat} (h : W32 w) {x : Nat} (hx : x < 4294967296) : W32 (w ++ [x]) := by
  intro i
  rcases Nat.lt_or_ge i w.length with hi | hi
  · have := h i
    simpa [List.getD, List.getElem?_append_left hi] using this
  · rw [List.getD, List.getElem?_append_right hi]
    rcases Nat.eq_zero_or_pos (i - w.length) with h0 | h0
    · rw [h0]; simpa using hx
    · rw [List.getElem?_eq_none (by simp; omega)]; simp
theorem wL1 (m : Nat) (hm : 1 ≤ m) : ∀ (j : Nat) (w : List Nat), w.length + j = 64 → 16 ≤ w.length → W32 w → ∀ n, j < n → ∀ k0,
    S_l2Words_L1_0 m n (.i (w.length : Int)) (.l (nr w)) k0 = k0 (.l (nr (wExt j w)))
  | 0, w, h, h2, hw, n, hn, k0 => by
    obtain ⟨n, rfl⟩ : ∃ m', n = m' + 1 := ⟨n - 1, by omega⟩
    simp only [S_l2Words_L1_0, T.rows_l, T.int_i, wExt]
    rw [dec_f (by omega)]
  | j + 1, w, h, h2, hw, n, hn, k0 => by
    obtain ⟨n, rfl⟩ : ∃ m', n = m' + 1 := ⟨n - 1, by omega⟩
    have hx := hw (w.length - 15)
    have hy := hw (w.length - 2)
    have hp := hw (w.length - 16)
    have hq := hw (w.length - 7)
    have s0 := sg0_lt hx
    have s1 := sg1_lt hy
    have ih := wL1 m hm j (w ++ [(w.getD (w.length - 16) 0 + sg0 (w.getD (w.length - 15) 0) + w.getD (w.length - 7) 0 + sg1 (w.getD (w.length - 2) 0)) % M32]) (by simp; omega) (by simp; omega)
      (W32_snoc hw (Nat.mod_lt _ (by unfold M32; omega))) n (by omega) k0
    have g1 : IntKind.i64.wrap ((w.length : Int) - 15) = ((w.length - 15 : Nat) : Int) := by rw [wrap_i64 (by omega) (by omega)]; omega
    have g2 : IntKind.i64.wrap ((w.length : Int) - 2) = ((w.length - 2 : Nat) : Int) := by rw [wrap_i64 (by omega) (by omega)]; omega
    have g3 : IntKind.i64.wrap ((w.length : Int) - 16) = ((w.length - 16 : Nat) : Int) := by rw [wrap_i64 (by omega) (by omega)]; omega
    have g4 : IntKind.i64.wrap ((w.length : Int) - 7) = ((w.length - 7 : Nat) : Int) := by rw [wrap_i64 (by omega) (by omega)]; omega
    have g5 : IntKind.i64.wrap ((w.length : Int) + 1) = ((w.length + 1 : Nat) : Int) := by rw [wrap_i64 (by omega) (by omega)]; omega
    have e3 : (min (Int.toNat 3) IntKind.i64.bits) = 3 := rfl
    have e10 : (min (Int.toNat 10) IntKind.i64.bits) = 10 := rfl
    simp only [S_l2Words_L1_0, T.rows_l, T.int_i, g1, g2, g3, g4, g5, Int.toNat_natCast, nr_len, nr_get w (w.length - 15) (by omega), nr_get w (w.length - 2) (by omega), nr_get w (w.length - 16) (by omega), nr_get w (w.length - 7) (by omega), e3, e10, fdiv_nat]
    rw [dec_t (by omega), dec_t (by omega), dec_t (by omega), dec_t (by omega), dec_t (by omega)]
    rw [turn_ok (z := 7) (n := 7) hm hx (by omega) (by omega) rfl, turn_ok (z := 18) (n := 18) hm hx (by omega) (by omega) rfl, turn_ok (z := 17) (n := 17) hm hy (by omega) (by omega) rfl, turn_ok (z := 19) (n := 19) hm hy (by omega) (by omega) rfl]
    rw [dec_t (by omega), dec_t (by omega), dec_t (by omega), dec_t (by omega), dec_t (by unfold maxRow; omega)]
    simp only [T.int_i]
    rw [xor3_ok (rotN_lt _ _) (rotN_lt _ _) (Nat.lt_of_le_of_lt (Nat.div_le_self _ _) hx), xor3_ok (rotN_lt _ _) (rotN_lt _ _) (Nat.lt_of_le_of_lt (Nat.div_le_self _ _) hy)]
    simp only [T.int_i]
    have a1 : IntKind.i64.wrap (((w.getD (w.length - 16) 0 : Nat) : Int) + ((rotN (w.getD (w.length - 15) 0) 7 ^^^ rotN (w.getD (w.length - 15) 0) 18 ^^^ w.getD (w.length - 15) 0 / 2 ^ 3 : Nat) : Int)) = ((w.getD (w.length - 16) 0 + sg0 (w.getD (w.length - 15) 0) : Nat) : Int) :=
      wrapN (x := w.getD (w.length - 16) 0 + sg0 (w.getD (w.length - 15) 0)) (by omega)
    rw [a1]
    have a2 : IntKind.i64.wrap (((w.getD (w.length - 16) 0 + sg0 (w.getD (w.length - 15) 0) : Nat) : Int) + ((w.getD (w.length - 7) 0 : Nat) : Int)) = ((w.getD (w.length - 16) 0 + sg0 (w.getD (w.length - 15) 0) + w.getD (w.length - 7) 0 : Nat) : Int) :=
      wrapN (x := w.getD (w.length - 16) 0 + sg0 (w.getD (w.length - 15) 0) + w.getD (w.length - 7) 0) (by omega)
    rw [a2]
    have a3 : IntKind.i64.wrap (((w.getD (w.length - 16) 0 + sg0 (w.getD (w.length - 15) 0) + w.getD (w.length - 7) 0 : Nat) : Int) + ((rotN (w.getD (w.length - 2) 0) 17 ^^^ rotN (w.getD (w.length - 2) 0) 19 ^^^ w.getD (w.length - 2) 0 / 2 ^ 10 : Nat) : Int)) = ((w.getD (w.length - 16) 0 + sg0 (w.getD (w.length - 15) 0) + w.getD (w.length - 7) 0 + sg1 (w.getD (w.length - 2) 0) : Nat) : Int) :=
      wrapN (x := w.getD (w.length - 16) 0 + sg0 (w.getD (w.length - 15) 0) + w.getD (w.length - 7) 0 + sg1 (w.getD (w.length - 2) 0)) (by omega)
    rw [a3, mask64 (by omega), nr_snoc]
    rw [show ((w.length + 1 : Nat) : Int) = (((w ++ [(w.getD (w.length - 16) 0 + sg0 (w.getD (w.length - 15) 0) + w.getD (w.length - 7) 0 + sg1 (w.getD (w.length - 2) 0)) % M32]).length : Nat) : Int) by simp, ih]
    rfl
end Go.Proofs.YtdhldbjjdlnbmaaGreat

namespace Go.Proofs.YtdhldbjjdlnbmaaGreat
open Go Go.E Go.Proofs
theorem getD_map_range (f : Nat → Nat) (n i : Nat) : ((List.range n).map f).getD i 0 = if i < n then f i else 0 := by
  by_cases h : i < n
  · simp [List.getD, h]
  · simp [List.getD, h]
theorem w16_W32 {b : List Nat} (hb : Bytes b) : W32 (w16 b) := by
  have key : ∀ i, wAt b i < 4294967296 := fun i => beW_lt (hb _) (hb _) (hb _) (hb _)
  have e := getD_map_range (wAt b) 16
  have e2 := w16_eq b
  generalize w16 b = l at e2 ⊢
  generalize wAt b = f at key e e2
  subst e2
  unfold W32
  intro i
  rw [e i]
  split
  · exact key i
  · omega
theorem w16_len (b : List Nat) : (w16 b).length = 16 := by
  rw [w16_eq, List.length_map, List.length_range]
theorem words_ok {m : Nat} (b : List Nat) (hb : Bytes b) (hl : 64 ≤ b.length) (hm : 100 ≤ m) (k : T → An) : S_l2Words m (.l (nr b)) k = k (.l (nr (words b))) := by
  obtain ⟨m, rfl⟩ : ∃ m', m = m' + 1 := ⟨m - 1, by omega⟩
  have e0 : words b = wExt 48 (w16 b) := by unfold words; rfl
  rw [e0]
  have h16 := w16_len b
  have h32 := w16_W32 hb
  have h1 := fun k0 => wL0 m b hb hl 16 0 (by omega) m (by omega) k0
  generalize w16 b = w at h16 h32 h1 ⊢
  have h2 := fun k0 => wL1 m (by omega) 48 w (by omega) (by omega) h32 m (by omega) k0
  rw [h16] at h2
  generalize wExt 48 w = r at h2 ⊢
  simp only [S_l2Words, T.rows_l]
  have e1 : (T.l [] : T) = .l (nr ((List.range 0).map (wAt b))) := rfl
  have e2 : (T.i 0 : T) = .i ((0 : Nat) : Int) := rfl
  rw [e1, e2, h1]
  have e3 : (T.i 16 : T) = .i ((16 : Nat) : Int) := rfl
  simp only [T.rows_l]
  rw [e3, h2]
  rfl
end Go.Proofs.YtdhldbjjdlnbmaaGreat

namespace Go.Proofs.YtdhldbjjdlnbmaaGreat
open Go Go.E Go.Proofs
theorem l2K_ok {m : Nat} (hm : 1 ≤ m) (k : T → An) : S_l2K m k = k (.l (nr kN)) := by
  obtain ⟨m, rfl⟩ : ∃ m', m = m' + 1 := ⟨m - 1, by omega⟩
  rfl
end Go.Proofs.YtdhldbjjdlnbmaaGreat

namespace Go.Proofs.YtdhldbjjdlnbmaaGreat
open Go Go.E Go.Proofs
theorem nr_set (v : List Nat) (i x : Nat) : (nr v).set i [T.i (x : Int)] = nr (v.set i x) := by
  unfold nr
  rw [List.map_set]
  rfl
theorem nr_row (v : List Nat) (i : Nat) (h : i < v.length) : (nr v).getD i [] = [T.i ((v.getD i 0 : Nat) : Int)] := by
  simp [nr, List.getD, h]
def addH (h : List Nat) : Nat → Nat → List Nat → List Nat
  | 0, _, v => v
  | j + 1, i, v => addH h j (i + 1) (v.set i ((v.getD i 0 + h.getD i 0) % M32))
theorem W32_set {v : List Nat} (hv : W32 v) (i x : Nat) (hx : x < 4294967296) : W32 (v.set i x) := by
  intro j
  have := hv j
  simp only [List.getD, List.getElem?_set] at this ⊢
  split
  · split
    · simpa using hx
    · simp
  · exact this
theorem blkL1 (m : Nat) (h : List Nat) (hh : W32 h) (hl : h.length = 8) : ∀ (j i : Nat) (v : List Nat), i + j = 8 → v.length = 8 → W32 v → ∀ n, j < n → ∀ k0,
    S_l2Block_L1_0 m n (.l (nr h)) (.i (i : Int)) (.l (nr v)) k0 = k0 (.l (nr (addH h j i v)))
  | 0, i, v, hij, hvl, hv, n, hn, k0 => by
    obtain ⟨n, rfl⟩ : ∃ m', n = m' + 1 := ⟨n - 1, by omega⟩
    simp only [S_l2Block_L1_0, T.rows_l, T.int_i, addH]
    rw [dec_f (by omega)]
  | j + 1, i, v, hij, hvl, hv, n, hn, k0 => by
    obtain ⟨n, rfl⟩ : ∃ m', n = m' + 1 := ⟨n - 1, by omega⟩
    have h1 := hv i
    have h2 := hh i
    have ih := blkL1 m h hh hl j (i + 1) (v.set i ((v.getD i 0 + h.getD i 0) % M32)) (by omega) (by simpa using hvl) (W32_set hv _ _ (Nat.mod_lt _ (by unfold M32; omega))) n (by omega) k0
    have f4 : IntKind.i64.wrap ((i : Int) + 1) = ((i + 1 : Nat) : Int) := by rw [wrap_i64 (by omega) (by omega)]; omega
    have f5 : IntKind.i64.wrap (((v.getD i 0 : Nat) : Int) + ((h.getD i 0 : Nat) : Int)) = ((v.getD i 0 + h.getD i 0 : Nat) : Int) := wrapN (x := v.getD i 0 + h.getD i 0) (by omega)
    simp only [S_l2Block_L1_0, T.rows_l, T.int_i, f4, Int.toNat_natCast, nr_len, nr_row v i (by omega), nr_row h i (by omega), List.getD_cons_zero, f5]
    rw [dec_t (by omega), dec_t (by omega), dec_t (by omega), dec_t (by omega), dec_t (by omega), dec_t (by omega), mask64 (by omega)]
    rw [show [T.i ((v.getD i 0 : Nat) : Int)].set 0 (T.i (((v.getD i 0 + h.getD i 0) % M32 : Nat) : Int)) = [T.i (((v.getD i 0 + h.getD i 0) % M32 : Nat) : Int)] from rfl, nr_set]
    exact ih
end Go.Proofs.YtdhldbjjdlnbmaaGreat

namespace Go.Proofs.YtdhldbjjdlnbmaaGreat
open Go Go.E Go.Proofs
theorem and32 {a b : Nat} (ha : a < 4294967296) (hb : b < 4294967296) : bvBack .i64 (BitVec.ofInt IntKind.i64.bits (a : Int) &&& BitVec.ofInt IntKind.i64.bits (b : Int)) = .i ((a &&& b : Nat) : Int) := and64 (by omega) (by omega)
theorem xor32 {a b : Nat} (ha : a < 4294967296) (hb : b < 4294967296) : bvBack .i64 (BitVec.ofInt IntKind.i64.bits (a : Int) ^^^ BitVec.ofInt IntKind.i64.bits (b : Int)) = .i ((a ^^^ b : Nat) : Int) := xor64 (by omega) (by omega)
theorem and_lt {a b : Nat} (ha : a < 4294967296) : a &&& b < 4294967296 := Nat.lt_of_le_of_lt Nat.and_le_left ha
theorem xor_lt {a b : Nat} (ha : a < 4294967296) (hb : b < 4294967296) : a ^^^ b < 4294967296 := Nat.xor_lt_two_pow (n := 32) ha hb
theorem not32 {e : Nat} (he : e < 4294967296) : bvBack .i64 (BitVec.ofInt IntKind.i64.bits 4294967295 ^^^ BitVec.ofInt IntKind.i64.bits (e : Int)) = .i ((4294967295 - e : Nat) : Int) := by
  have := xor32 (a := 4294967295) (b := e) (by omega) he
  rw [show ((4294967295 : Nat) : Int) = 4294967295 from rfl] at this
  rw [this]
  congr 2
  have h1 := Nat.xor_lt_two_pow (x := 4294967295) (y := e) (n := 32) (by omega) he
  apply Nat.eq_of_testBit_eq
  intro i
  rw [Nat.testBit_xor, show (4294967295 : Nat) = 2 ^ 32 - 1 from rfl, Nat.testBit_two_pow_sub_one, show 2 ^ 32 - 1 - e = 2 ^ 32 - (e + 1) by omega, Nat.testBit_two_pow_sub_succ he]
  by_cases h : i < 32
  · simp [h]
  · have : e.testBit i = false := Nat.testBit_lt_two_pow (Nat.lt_of_lt_of_le (show e < 2 ^ 32 from he) (Nat.pow_le_pow_right (Nat.zero_lt_succ 1) (Nat.le_of_not_lt h)))
    simp [h, this]
end Go.Proofs.YtdhldbjjdlnbmaaGreat

namespace Go.Proofs.YtdhldbjjdlnbmaaGreat
open Go Go.E Go.Proofs
theorem drop_getD {l : List Nat} {i : Nat} (h : i < l.length) : l.drop i = l.getD i 0 :: l.drop (i + 1) := by
  rw [List.drop_eq_getElem_cons h]
  simp [List.getD, h]
theorem W32_list8 {a b c d e f g h : Nat} (ha : a < 4294967296) (hb : b < 4294967296) (hc : c < 4294967296) (hd : d < 4294967296) (he : e < 4294967296) (hf : f < 4294967296) (hg : g < 4294967296) (hh : h < 4294967296) : W32 [a, b, c, d, e, f, g, h] := by
  intro i
  match i with
  | 0 => exact ha
  | 1 => exact hb
  | 2 => exact hc
  | 3 => exact hd
  | 4 => exact he
  | 5 => exact hf
  | 6 => exact hg
  | 7 => exact hh
  | i + 8 => simp
theorem not_lt32 {e : Nat} (he : e < 4294967296) : 4294967295 - e < 4294967296 := by omega
theorem wadd {x y : Nat} (h : x + y < 9223372036854775808) : IntKind.i64.wrap ((x : Int) + (y : Int)) = ((x + y : Nat) : Int) := wrapN (x := x + y) h
theorem blkL0 (m : Nat) (hm : 1 ≤ m) (h0 : T) (ks ws : List Nat) (hk : W32 ks) (hw : W32 ws) (hkl : ks.length = 64) (hwl : ws.length = 64) : ∀ (j i a b c d e f g h : Nat), i + j = 64 → W32 [a, b, c, d, e, f, g, h] → ∀ n, j < n → ∀ k0,
    S_l2Block_L0_0 m n (.l h0.rows) (.l (nr ks)) (.i (i : Int)) (.l (nr ws)) (.l (nr [a, b, c, d, e, f, g, h])) k0 = k0 (.l h0.rows) (.l (nr (turns (ks.drop i) (ws.drop i) [a, b, c, d, e, f, g, h])))
  | 0, i, a, b, c, d, e, f, g, h, hij, hv, n, hn, k0 => by
    obtain ⟨n, rfl⟩ : ∃ m', n = m' + 1 := ⟨n - 1, by omega⟩
    have hi : i = 64 := by omega
    subst hi
    rw [List.drop_eq_nil_of_le (by omega), List.drop_eq_nil_of_le (by omega)]
    simp only [S_l2Block_L0_0, T.rows_l, T.int_i]
    rw [dec_f (by omega)]
    rfl
  | j + 1, i, a, b, c, d, e, f, g, h, hij, hv, n, hn, k0 => by
    obtain ⟨n, rfl⟩ : ∃ m', n = m' + 1 := ⟨n - 1, by omega⟩
    have ha : a < 4294967296 := hv 0
    have hb : b < 4294967296 := hv 1
    have hc : c < 4294967296 := hv 2
    have hd : d < 4294967296 := hv 3
    have he : e < 4294967296 := hv 4
    have hf : f < 4294967296 := hv 5
    have hg : g < 4294967296 := hv 6
    have hh : h < 4294967296 := hv 7
    have hkv := hk i
    have hwv := hw i
    rw [drop_getD (l := ks) (by omega), drop_getD (l := ws) (by omega), turns]
    have f4 : IntKind.i64.wrap ((i : Int) + 1) = ((i + 1 : Nat) : Int) := by rw [wrap_i64 (by omega) (by omega)]; omega
    have kr := nr_get ks i (by omega)
    have wr := nr_get ws i (by omega)
    generalize hkk : ks.getD i 0 = kv at *
    generalize hww : ws.getD i 0 = wv at *
    have r1 := rotN_lt e 6
    have r2 := rotN_lt e 11
    have r3 := rotN_lt e 25
    have r4 := rotN_lt a 2
    have r5 := rotN_lt a 13
    have r6 := rotN_lt a 22
    have e8 : nr [a, b, c, d, e, f, g, h] = [[T.i (a : Int)], [T.i (b : Int)], [T.i (c : Int)], [T.i (d : Int)], [T.i (e : Int)], [T.i (f : Int)], [T.i (g : Int)], [T.i (h : Int)]] := rfl
    simp only [S_l2Block_L0_0, T.rows_l, T.int_i, f4, Int.toNat_natCast, nr_len, kr, wr, e8, List.getD_cons_zero, List.getD_cons_succ, List.length_cons, List.length_nil, hkl, hwl]
    rw [dec_t (by omega)]
    rw [dec_t (by decide)]
    rw [turn_ok (z := 6) (n := 6) hm he (by omega) (by omega) rfl, turn_ok (z := 11) (n := 11) hm he (by omega) (by omega) rfl, turn_ok (z := 25) (n := 25) hm he (by omega) (by omega) rfl]
    rw [dec_t (by decide), dec_t (by decide), dec_t (by decide), dec_t (by omega), dec_t (by omega), dec_t (by omega), dec_t (by decide)]
    rw [turn_ok (z := 2) (n := 2) hm ha (by omega) (by omega) rfl, turn_ok (z := 13) (n := 13) hm ha (by omega) (by omega) rfl, turn_ok (z := 22) (n := 22) hm ha (by omega) (by omega) rfl]
    repeat rw [dec_t (by first | omega | decide)]
    have q1 := not_lt32 he
    simp only [T.int_i, xor3_ok r1 r2 r3, xor3_ok r4 r5 r6, not32 he, and32 he hf, and32 q1 hg, xor32 (and_lt he) (and_lt q1), and32 ha hb, and32 ha hc, and32 hb hc, xor3_ok (and_lt ha) (and_lt ha) (and_lt hb)]
    obtain ⟨S1, hS1⟩ : ∃ S1, S1 = rotN e 6 ^^^ rotN e 11 ^^^ rotN e 25 := ⟨_, rfl⟩
    obtain ⟨CH, hCH⟩ : ∃ CH, CH = (e &&& f) ^^^ ((4294967295 - e) &&& g) := ⟨_, rfl⟩
    obtain ⟨S0, hS0⟩ : ∃ S0, S0 = rotN a 2 ^^^ rotN a 13 ^^^ rotN a 22 := ⟨_, rfl⟩
    obtain ⟨MJ, hMJ⟩ : ∃ MJ, MJ = (a &&& b) ^^^ (a &&& c) ^^^ (b &&& c) := ⟨_, rfl⟩
    have l1 : S1 < 4294967296 := by rw [hS1]; exact xor_lt (xor_lt r1 r2) r3
    have l2 : CH < 4294967296 := by rw [hCH]; exact xor_lt (and_lt he) (and_lt q1)
    have l3 : S0 < 4294967296 := by rw [hS0]; exact xor_lt (xor_lt r4 r5) r6
    have l4 : MJ < 4294967296 := by rw [hMJ]; exact xor_lt (xor_lt (and_lt ha) (and_lt ha)) (and_lt hb)
    rw [← hS1, ← hCH, ← hS0, ← hMJ]
    have ht : turn1 [a, b, c, d, e, f, g, h] kv wv = [(h + S1 + CH + kv + wv + S0 + MJ) % M32, a, b, c, (d + (h + S1 + CH + kv + wv)) % M32, e, f, g] := by
      rw [hS1, hCH, hS0, hMJ]; rfl
    rw [ht]
    rw [wadd (x := h) (y := S1) (by omega), wadd (x := h + S1) (y := CH) (by omega), wadd (x := h + S1 + CH) (y := kv) (by omega), wadd (x := h + S1 + CH + kv) (y := wv) (by omega), wadd (x := S0) (y := MJ) (by omega),
      wadd (x := h + S1 + CH + kv + wv) (y := S0 + MJ) (by omega), wadd (x := d) (y := h + S1 + CH + kv + wv) (by omega), mask64 (by omega), mask64 (by omega), ← Nat.add_assoc]
    exact blkL0 m hm h0 ks ws hk hw hkl hwl j (i + 1) _ a b c _ e f g (by omega) (W32_list8 (Nat.mod_lt _ (by omega)) ha hb hc (Nat.mod_lt _ (by omega)) he hf hg) n (by omega) k0
end Go.Proofs.YtdhldbjjdlnbmaaGreat

namespace Go.Proofs.YtdhldbjjdlnbmaaGreat
open Go Go.E Go.Proofs
theorem l8 {l : List Nat} (h : l.length = 8) : ∃ a b c d e f g i, l = [a, b, c, d, e, f, g, i] := by
  match l, h with
  | [a, b, c, d, e, f, g, i], _ => exact ⟨a, b, c, d, e, f, g, i, rfl⟩
theorem turns_ok : ∀ (ks ws v : List Nat), v.length = 8 → W32 v → (turns ks ws v).length = 8 ∧ W32 (turns ks ws v)
  | [], ws, v, h1, h2 => by cases ws <;> exact ⟨h1, h2⟩
  | k :: ks, [], v, h1, h2 => ⟨h1, h2⟩
  | k :: ks, w :: ws, v, h1, h2 => by
    obtain ⟨a, b, c, d, e, f, g, i, rfl⟩ := l8 h1
    rw [turns]
    refine turns_ok ks ws _ rfl ?_
    exact W32_list8 (Nat.mod_lt _ (by unfold M32; omega)) (h2 0) (h2 1) (h2 2) (Nat.mod_lt _ (by unfold M32; omega)) (h2 4) (h2 5) (h2 6)
theorem addH8 (h v : List Nat) (hl : v.length = 8) : addH h 8 0 v = (List.range 8).map fun i => (v.getD i 0 + h.getD i 0) % M32 := by
  obtain ⟨a, b, c, d, e, f, g, i, rfl⟩ := l8 hl
  rfl
theorem kN_W : W32 kN := by
  intro i
  by_cases h : i < 64
  · have : ∀ j, j < 64 → kN.getD j 0 < 4294967296 := by decide
    exact this i h
  · rw [List.getD, List.getElem?_eq_none (by show kN.length ≤ i; have : kN.length = 64 := rfl; omega)]; simp
theorem wExt_l : ∀ (n : Nat) (l : List Nat), (wExt n l).length = l.length + n
  | 0, l => by rw [wExt]; rfl
  | n + 1, l => by rw [wExt, wExt_l n]; simp; omega
theorem wExt_W : ∀ (n : Nat) (l : List Nat), W32 l → W32 (wExt n l)
  | 0, l, h => by rw [wExt]; exact h
  | n + 1, l, h => by rw [wExt]; exact wExt_W n _ (W32_snoc h (Nat.mod_lt _ (by unfold M32; omega)))
theorem words_l (b : List Nat) : (words b).length = 64 := by
  have e : words b = wExt 48 (w16 b) := by unfold words; rfl
  rw [e]
  have h3 := wExt_l 48 (w16 b)
  have h4 := w16_len b
  generalize w16 b = l2 at h3 h4
  generalize wExt 48 l2 = l3 at h3
  omega
theorem words_W {b : List Nat} (h : Bytes b) : W32 (words b) := by
  have e : words b = wExt 48 (w16 b) := by unfold words; rfl
  rw [e]
  have h1 := w16_W32 h
  generalize w16 b = l2 at h1
  exact wExt_W 48 l2 h1
theorem l2Block_ok {m : Nat} (h b : List Nat) (hl : h.length = 8) (hh : W32 h) (hb : Bytes b) (hbl : 64 ≤ b.length) (hm : 200 ≤ m) (k : T → An) : S_l2Block m (.l (nr h)) (.l (nr b)) (.l (nr kN)) k = k (.l (nr (blockN kN h b))) := by
  obtain ⟨m, rfl⟩ : ∃ m', m = m' + 1 := ⟨m - 1, by omega⟩
  have hwl := words_l b
  have hw := words_W hb
  have hkw := kN_W
  have hkl : kN.length = 64 := rfl
  have e1 : blockN kN h b = (List.range 8).map fun i => ((turns kN (words b) h).getD i 0 + h.getD i 0) % M32 := rfl
  rw [e1]
  simp only [S_l2Block, T.rows_l]
  rw [words_ok b hb hbl (by omega)]
  generalize words b = ws at hwl hw ⊢
  generalize kN = ks at hkw hkl ⊢
  simp only [nr_len, T.rows_l]
  rw [dec_t (by unfold maxRow; omega)]
  obtain ⟨h1, h2⟩ := turns_ok ks ws h hl hh
  rw [← addH8 h _ h1]
  obtain ⟨a, b', c, d, e, f, g, i, rfl⟩ := l8 hl
  have := blkL0 m (by omega) (.l (nr [a, b', c, d, e, f, g, i])) ks ws hkw hw hkl hwl 64 0 a b' c d e f g i rfl hh m (by omega)
  simp only [T.rows_l, List.drop_zero] at this
  rw [show (T.i 0 : T) = .i ((0 : Nat) : Int) from rfl, this]
  simp only [T.rows_l]
  rw [blkL1 m _ hh rfl 8 0 _ rfl h1 h2 m (by omega)]
  simp only [T.rows_l]
def b4 (x : Nat) : List Nat := [x / 2 ^ 24 % 256, x / 2 ^ 16 % 256, x / 2 ^ 8 % 256, x % 256]
theorem digL1 (m : Nat) (h : List Nat) (hl : h.length = 8) : ∀ (j i : Nat) (out : List Nat), i + j = 8 → out.length = 4 * i → ∀ n, j < n → ∀ k0,
    S_Digest_L1_0 m n (.i (i : Int)) (.l (nr h)) (.l (nr out)) k0 = k0 (.l (nr (out ++ (h.drop i).flatMap b4)))
  | 0, i, out, hij, ho, n, hn, k0 => by
    obtain ⟨n, rfl⟩ : ∃ m', n = m' + 1 := ⟨n - 1, by omega⟩
    simp only [S_Digest_L1_0, T.rows_l, T.int_i]
    rw [dec_f (by omega), List.drop_eq_nil_of_le (by omega)]
    simp
  | j + 1, i, out, hij, ho, n, hn, k0 => by
    obtain ⟨n, rfl⟩ : ∃ m', n = m' + 1 := ⟨n - 1, by omega⟩
    have f4 : IntKind.i64.wrap ((i : Int) + 1) = ((i + 1 : Nat) : Int) := by rw [wrap_i64 (by omega) (by omega)]; omega
    have s1 : (min (Int.toNat 24) IntKind.i64.bits) = 24 := rfl
    have s2 : (min (Int.toNat 16) IntKind.i64.bits) = 16 := rfl
    have s3 : (min (Int.toNat 8) IntKind.i64.bits) = 8 := rfl
    simp only [S_Digest_L1_0, T.rows_l, T.int_i, nr_len, f4, Int.toNat_natCast, nr_get h i (by omega), s1, s2, s3, fdiv_nat, wrap_u8]
    repeat rw [dec_t (by first | omega | (unfold maxRow; omega))]
    rw [drop_getD (l := h) (by omega), List.flatMap_cons]
    have e : (nr out ++ [[T.i ((h.getD i 0 / 2 ^ 24 % 256 : Nat) : Int)], [T.i ((h.getD i 0 / 2 ^ 16 % 256 : Nat) : Int)], [T.i ((h.getD i 0 / 2 ^ 8 % 256 : Nat) : Int)], [T.i ((h.getD i 0 % 256 : Nat) : Int)]]) = nr (out ++ b4 (h.getD i 0)) := by
      rw [nr_app]; rfl
    rw [e, digL1 m h hl j (i + 1) (out ++ b4 (h.getD i 0)) (by omega) (by rw [List.length_append, ho]; show 4 * i + 4 = _; omega) n (by omega), List.append_assoc]
theorem nr_take (l : List Nat) (n : Nat) : (nr l).take n = nr (l.take n) := by unfold nr; rw [List.map_take]
theorem nr_drop (l : List Nat) (n : Nat) : (nr l).drop n = nr (l.drop n) := by unfold nr; rw [List.map_drop]
theorem blockN_l (ks h b : List Nat) : (blockN ks h b).length = 8 := by simp [blockN]
theorem blockN_W (ks h b : List Nat) : W32 (blockN ks h b) := by
  intro i
  unfold blockN
  rw [getD_map_range]
  split
  · exact Nat.mod_lt _ (by unfold M32; omega)
  · omega
theorem digL0 (m : Nat) (hm : 200 ≤ m) (p : List Nat) (c : Nat) (hp : p.length = 64 * c) (hc : c ≤ 1073741824) (hb : Bytes p) : ∀ (j i : Nat) (h : List Nat), i + j = c → h.length = 8 → W32 h → ∀ n, j < n → ∀ k0,
    S_Digest_L0_0 m n (.i ((64 * i : Nat) : Int)) (.l (nr p)) (.l (nr h)) (.l (nr kN)) k0 = k0 (.l (nr (blocksN kN j h (p.drop (64 * i)))))
  | 0, i, h, hij, h1, h2, n, hn, k0 => by
    obtain ⟨n, rfl⟩ : ∃ m', n = m' + 1 := ⟨n - 1, by omega⟩
    simp only [S_Digest_L0_0, T.rows_l, T.int_i, nr_len, blocksN]
    rw [dec_f (by omega)]
  | j + 1, i, h, hij, h1, h2, n, hn, k0 => by
    obtain ⟨n, rfl⟩ : ∃ m', n = m' + 1 := ⟨n - 1, by omega⟩
    have f4 : IntKind.i64.wrap (((64 * i : Nat) : Int) + 64) = ((64 * (i + 1) : Nat) : Int) := by rw [wrap_i64 (by omega) (by omega)]; omega
    have hbt : Bytes ((p.drop (64 * i)).take 64) := fun t => by
      by_cases ht : t < 64
      · have := hb (64 * i + t)
        simpa [List.getD, List.getElem?_take, List.getElem?_drop, ht] using this
      · simp [List.getD, List.getElem?_take, ht]
    have e1 : ((nr p).take (64 * (i + 1))).drop (64 * i) = nr ((p.drop (64 * i)).take 64) := by
      rw [nr_take, nr_drop, List.drop_take, show 64 * (i + 1) - 64 * i = 64 by omega]
    have e2 : blocksN kN (j + 1) h (p.drop (64 * i)) = blocksN kN j (blockN kN h ((p.drop (64 * i)).take 64)) (p.drop (64 * (i + 1))) := by
      rw [blocksN, List.drop_drop, show 64 * i + 64 = 64 * (i + 1) by omega]
    rw [e2]
    simp only [S_Digest_L0_0, T.rows_l, T.int_i, nr_len, f4, Int.toNat_natCast, e1]
    rw [dec_t (by omega), dec_t (by omega), dec_t (by omega), l2Block_ok h _ h1 h2 hbt (by rw [List.length_take, List.length_drop]; omega) hm]
    simp only [T.rows_l]
    exact digL0 m hm p c hp hc hb j (i + 1) _ (by omega) (blockN_l _ _ _) (blockN_W _ _ _) n (by omega) k0
theorem h0N_W : W32 h0N := W32_list8 (by decide) (by decide) (by decide) (by decide) (by decide) (by decide) (by decide) (by decide)
theorem blocksN_ok : ∀ (n : Nat) (h p : List Nat), h.length = 8 → W32 h → (blocksN kN n h p).length = 8
  | 0, h, p, h1, h2 => h1
  | n + 1, h, p, h1, h2 => by rw [blocksN]; exact blocksN_ok n _ _ (blockN_l _ _ _) (blockN_W _ _ _)
theorem pad_bytes {l : List Nat} (h : Bytes l) : Bytes (padN l) := by
  have hall : ∀ {m : List Nat}, (∀ x ∈ m, x < 256) → Bytes m := fun {m} hm i => by
    by_cases hi : i < m.length
    · have : m.getD i 0 = m[i] := by simp [List.getD, hi]
      rw [this]
      exact hm _ (List.getElem_mem hi)
    · rw [List.getD, List.getElem?_eq_none (by omega)]; simp
  have hl : ∀ x ∈ l, x < 256 := fun x hx => by
    obtain ⟨i, hi, rfl⟩ := List.getElem_of_mem hx
    have := h i
    simpa [List.getD, hi] using this
  refine hall fun x hx => ?_
  unfold padN at hx
  simp only [List.mem_append, List.mem_cons, List.not_mem_nil, or_false, List.mem_replicate, List.mem_map] at hx
  rcases hx with ((hx | hx) | hx) | ⟨i, -, rfl⟩
  · exact hl x hx
  · omega
  · omega
  · exact Nat.mod_lt _ (by omega)
theorem pad_len (l : List Nat) : ∃ c, (padN l).length = 64 * c ∧ 64 * c ≤ l.length + 136 := by
  refine ⟨(l.length + 1 + (119 - l.length % 64) % 64 + 8) / 64, ?_, by omega⟩
  simp [padN]
  omega
theorem rowsBytes_nr (l : List Nat) : rowsBytes (nr l) = ⟨(l.map UInt8.ofNat).toArray⟩ := by
  unfold rowsBytes nr
  rw [List.map_map]
  rfl
theorem digB_nr (l : List Nat) : digestB (nr l) = ⟨((digestN l).map UInt8.ofNat).toArray⟩ := by
  unfold digestB
  have : (nr l).map (fun r => (r.getD 0 dflt).int.toNat) = l := by
    unfold nr
    rw [List.map_map]
    exact List.map_id _
  rw [this]
theorem S_Digest_ok {m : Nat} (l : List Nat) (hl : l.length ≤ 1073741824) (hb : Bytes l) (hm : 20000000 ≤ m) (k : T → An) : S_Digest m (.l (nr l)) k = k (.s (digestB (nr l))) := by
  obtain ⟨m, rfl⟩ : ∃ m', m = m' + 1 := ⟨m - 1, by omega⟩
  obtain ⟨c, hc, hc2⟩ := pad_len l
  simp only [S_Digest, T.rows_l]
  rw [pad_ok l hl (by omega), l2K_ok (by omega)]
  simp only [T.rows_l]
  rw [show (T.i 0 : T) = .i ((64 * 0 : Nat) : Int) from rfl, show ([[(T.i 1779033703)], [(T.i 3144134277)], [(T.i 1013904242)], [(T.i 2773480762)], [(T.i 1359893119)], [(T.i 2600822924)], [(T.i 528734635)], [(T.i 1541459225)]] : List (List T)) = nr h0N from rfl]
  rw [digL0 m (by omega) (padN l) c hc (by omega) (pad_bytes hb) c 0 h0N (by omega) rfl h0N_W m (by omega)]
  simp only [T.rows_l, Nat.mul_zero, List.drop_zero]
  have h8 := blocksN_ok c h0N (padN l) rfl h0N_W
  have e0 : digestN l = (blocksN kN c h0N (padN l)).flatMap b4 := by
    unfold digestN
    rw [hc, Nat.mul_div_cancel_left c (by omega)]
    rfl
  rw [digB_nr, e0]
  generalize blocksN kN c h0N (padN l) = z at h8 ⊢
  rw [show (T.l [] : T) = .l (nr []) from rfl, digL1 m z h8 8 0 [] rfl rfl m (by omega)]
  simp only [T.rows_l, List.nil_append, List.drop_zero]
  rw [rowsBytes_nr]
end Go.Proofs.YtdhldbjjdlnbmaaGreat

namespace Go.Proofs.YtdhldbjjdlnbmaaGreat
open Go Go.E Go.Proofs
mutual
def tsz : T → Nat
  | .i _ => 0
  | .b _ => 0
  | .s s => s.size
  | .l rows => rows.length + rowsSz rows
  | .x _ => 0
def rowSz : List T → Nat
  | [] => 0
  | d :: ds => tsz d + rowSz ds
def rowsSz : List (List T) → Nat
  | [] => 0
  | r :: rs => rowSz r + rowsSz rs
end
theorem rowsSz_app : ∀ a b : List (List T), rowsSz (a ++ b) = rowsSz a + rowsSz b
  | [], b => by simp [rowsSz]
  | x :: a, b => by simp only [List.cons_append, rowsSz, rowsSz_app a b]; omega
theorem rowsBulk_app : ∀ a b : List (List T), rowsBulk (a ++ b) = rowsBulk a + rowsBulk b
  | [], b => by simp [rowsBulk]
  | x :: a, b => by simp only [List.cons_append, rowsBulk, rowsBulk_app a b]; omega
theorem ix_row (pre : List (List T)) (x : List T) (post : List (List T)) : (pre ++ x :: post).getD (Int.toNat (pre.length : Int)) [] = x := by simp [List.getD]
theorem ix_nx {α : Type} (pre : List α) (h : pre.length < 4611686018427387904) : IntKind.i64.wrap ((pre.length : Int) + 1) = (pre.length : Int) + 1 := wrap_i64 (by omega) (by omega)
theorem len_snoc {α : Type} (pre : List α) (x : α) : (((pre ++ [x]).length : Nat) : Int) = (pre.length : Int) + 1 := by simp
theorem set_row (pre : List (List T)) (x y : List T) (post : List (List T)) : (pre ++ x :: post).set (Int.toNat (pre.length : Int)) y = pre ++ y :: post := by simp [List.set_append]
theorem wtRow_ne {es : List LT} (hes : es ≠ []) {r : List T} (h : WtRow es r) : 1 ≤ rowBulk r := by
  match es, hes with
  | e :: es, _ =>
    unfold WtRow at h
    obtain ⟨d, r, rfl, -, -⟩ := h
    have : 1 ≤ tbulk d := by cases d <;> simp [tbulk]
    simp only [rowBulk]; omega
theorem wtRows_len {es : List LT} (hes : es ≠ []) : ∀ {rows : List (List T)}, (∀ r ∈ rows, WtRow es r) → rows.length ≤ rowsBulk rows
  | [], _ => by simp [rowsBulk]
  | r :: rows, h => by
    have h1 := wtRow_ne hes (h r (by simp))
    have h2 := wtRows_len hes (rows := rows) fun r hr => h r (by simp [hr])
    simp only [rowsBulk, List.length_cons]; omega
abbrev esString : List LT := [.sc .str]
theorem toStringS_loop (m : Nat) (hm : 1048602 ≤ m) : ∀ (post pre z : List (List T)), (∀ r ∈ post, WtRow esString r) → rowsBulk post ≤ 1048576 → z.length = post.length → (∀ r ∈ z, r.length = 1) → pre.length + post.length ≤ 1048576 →
    ∀ n, post.length < n → ∀ k0, W_toStringS_L0_0 m n (.l (pre ++ post)) (.i pre.length) (.l (pre ++ z)) k0 = k0 (.l (pre ++ post))
  | [], pre, z, h, hb, hz, hz2, hs, n, hn, k0 => by
    obtain ⟨n, rfl⟩ : ∃ m', n = m' + 1 := ⟨n - 1, by omega⟩
    obtain rfl : z = [] := List.eq_nil_of_length_eq_zero hz
    simp only [W_toStringS_L0_0, T.int_i, T.rows_l]
    rw [dec_f (by simp)]
  | x :: post, pre, z, h, hb, hz, hz2, hs, n, hn, k0 => by
    obtain ⟨n, rfl⟩ : ∃ m', n = m' + 1 := ⟨n - 1, by omega⟩
    simp only [List.length_cons] at hs hn hz
    match z, hz, hz2 with
    | r :: z, hz, hz2 =>
    simp only [List.length_cons] at hz
    match r, hz2 r (by simp) with
    | [c0], _ =>
    have ih := toStringS_loop m hm post (pre ++ [x]) z (fun r hr => h r (by simp [hr])) (by simp only [rowsBulk] at hb; omega) (by omega) (fun r hr => hz2 r (by simp [hr])) (by simp; omega) n (by omega) k0
    have hx := h x (by simp)
    simp only [esString, WtRow, WtT] at hx
    obtain ⟨_, _, rfl, ⟨a0, rfl, -⟩, rfl⟩ := hx
    simp only [rowsBulk, rowBulk, tbulk] at hb
    simp only [W_toStringS_L0_0, T.int_i, T.rows_l, ix_row, ix_nx pre (by omega), set_row, List.getD_cons_zero, List.getD_cons_succ, List.set_cons_zero, List.set_cons_succ]
    rw [dec_t (by simp; omega), dec_t (by simp; omega)]
    rw [dec_t (by simp; omega), dec_t (by simp)]
    simpa using ih
theorem toStringS_ok {m : Nat} (hm : 1048603 ≤ m) (rows : List (List T)) (h : ∀ r ∈ rows, WtRow esString r) (hb : rowsBulk rows ≤ 1048576) (k : T → An) : W_toStringS m (.l rows) k = k (.l rows) := by
  obtain ⟨m, rfl⟩ : ∃ m', m = m' + 1 := ⟨m - 1, by omega⟩
  have hl := wtRows_len (by simp) h
  simp only [W_toStringS, T.rows_l, T.int_i]
  rw [dec_t (by omega), dec_t (by unfold maxCells; omega)]
  exact toStringS_loop m (by omega) rows [] (List.replicate _ _) h hb (by simp) (fun r hr => by rw [List.eq_of_mem_replicate hr]; rfl) (by simp; omega) m (by omega) _
theorem szStringS_loop (m : Nat) (hm : 1048602 ≤ m) : ∀ (post pre : List (List T)) (l : Int), (∀ r ∈ post, WtRow esString r) → rowsBulk post ≤ 1048576 → (rowsSz post : Int) ≤ l → l ≤ 1048576 → pre.length + post.length ≤ 1048576 →
    ∀ n, post.length < n → ∀ k0 k1, W_szStringS_L0_0 m n (.l (pre ++ post)) (.i l) (.i pre.length) k0 k1 = k1 (.i (l - rowsSz post))
  | [], pre, l, h, hb, hl, hl2, hs, n, hn, k0, k1 => by
    obtain ⟨n, rfl⟩ : ∃ m', n = m' + 1 := ⟨n - 1, by omega⟩
    simp only [W_szStringS_L0_0, T.int_i, T.rows_l]
    rw [dec_f (by simp)]
    simp [rowsSz]
  | x :: post, pre, l, h, hb, hl, hl2, hs, n, hn, k0, k1 => by
    obtain ⟨n, rfl⟩ : ∃ m', n = m' + 1 := ⟨n - 1, by omega⟩
    simp only [List.length_cons] at hs hn
    simp only [rowsSz] at hl ⊢
    have ih := fun l hl hl2 => szStringS_loop m hm post (pre ++ [x]) l (fun r hr => h r (by simp [hr])) (by simp only [rowsBulk] at hb; omega) hl hl2 (by simp; omega) n (by omega) k0 k1
    have hx := h x (by simp)
    simp only [esString, WtRow, WtT] at hx
    obtain ⟨_, _, rfl, ⟨a0, rfl, -⟩, rfl⟩ := hx
    simp only [rowsBulk, rowBulk, tbulk] at hb
    simp only [W_szStringS_L0_0, T.int_i, T.rows_l, ix_row, ix_nx pre (by omega), List.getD_cons_zero, List.getD_cons_succ]
    rw [dec_t (by simp; omega), dec_t (by simp; omega)]
    simp only [rowSz, tsz, T.str_s] at hl ⊢
    rw [show IntKind.i64.wrap (l - (a0.size : Int)) = l - (a0.size : Int) from wrap_i64 (by omega) (by omega), dec_f (by omega)]
    have := ih (l - a0.size) (by omega) (by omega)
    simp only [List.append_assoc, List.cons_append, List.nil_append, len_snoc] at this
    refine this.trans ?_
    congr 2; omega
theorem szStringS_ok {m : Nat} (hm : 1048603 ≤ m) (rows : List (List T)) (h : ∀ r ∈ rows, WtRow esString r) (hb : rowsBulk rows ≤ 1048576) (l : Int) (hl : ((rows.length + rowsSz rows : Nat) : Int) ≤ l) (hl2 : l ≤ 1048576) (k : T → An) : W_szStringS m (.l rows) (.i l) k = k (.i (l - (rows.length + rowsSz rows : Nat))) := by
  obtain ⟨m, rfl⟩ : ∃ m', m = m' + 1 := ⟨m - 1, by omega⟩
  have hlen := wtRows_len (by simp) h
  simp only [W_szStringS, T.rows_l, T.int_i]
  rw [show IntKind.i64.wrap (l - (rows.length : Int)) = l - (rows.length : Int) from wrap_i64 (by omega) (by omega), dec_f (by omega)]
  refine (szStringS_loop m (by omega) rows [] (l - rows.length) h hb (by omega) (by omega) (by simp; omega) m (by omega) _ _).trans ?_
  congr 2; omega
theorem eqStringS_loop (m : Nat) (hm : 1048602 ≤ m) : ∀ (post pre : List (List T)), (∀ r ∈ post, WtRow esString r) → rowsBulk post ≤ 1048576 → pre.length + post.length ≤ 1048576 →
    ∀ n, post.length < n → ∀ k0 k1, W_eqStringS_L0_0 m n (.l (pre ++ post)) (.l (pre ++ post)) (.i pre.length) k0 k1 = k1
  | [], pre, h, hb, hs, n, hn, k0, k1 => by
    obtain ⟨n, rfl⟩ : ∃ m', n = m' + 1 := ⟨n - 1, by omega⟩
    simp only [W_eqStringS_L0_0, T.int_i, T.rows_l]
    rw [dec_f (by simp)]
  | x :: post, pre, h, hb, hs, n, hn, k0, k1 => by
    obtain ⟨n, rfl⟩ : ∃ m', n = m' + 1 := ⟨n - 1, by omega⟩
    simp only [List.length_cons] at hs hn
    have ih := eqStringS_loop m hm post (pre ++ [x]) (fun r hr => h r (by simp [hr])) (by simp only [rowsBulk] at hb; omega) (by simp; omega) n (by omega) k0 k1
    have hx := h x (by simp)
    simp only [esString, WtRow, WtT] at hx
    obtain ⟨_, _, rfl, ⟨a0, rfl, -⟩, rfl⟩ := hx
    simp only [rowsBulk, rowBulk, tbulk] at hb
    simp only [W_eqStringS_L0_0, T.int_i, T.rows_l, ix_row, ix_nx pre (by omega), List.getD_cons_zero, List.getD_cons_succ]
    rw [dec_t (by simp; omega), dec_t (by simp; omega), dec_t (by simp; omega)]
    simp only [T.str_s, beq_toList_self, Bool.not_true, cond_false]
    simpa using ih
theorem eqStringS_ok {m : Nat} (hm : 1048603 ≤ m) (rows : List (List T)) (h : ∀ r ∈ rows, WtRow esString r) (hb : rowsBulk rows ≤ 1048576) (k : T → An) : W_eqStringS m (.l rows) (.l rows) k = k (.b true) := by
  obtain ⟨m, rfl⟩ : ∃ m', m = m' + 1 := ⟨m - 1, by omega⟩
  have hlen := wtRows_len (by simp) h
  simp only [W_eqStringS, T.rows_l, T.int_i, bne_self_eq_false, cond_false]
  exact eqStringS_loop m (by omega) rows [] h hb (by simp; omega) m (by omega) _ _
abbrev esPair : List LT := [.sc .str, .sc .str]
theorem toPair_ok {m : Nat} (hm : 1048602 ≤ m) (a0 : ByteArray) (a1 : ByteArray)  (k : T → T → An) : W_toPair m (.s a0) (.s a1) k = k (.s a0) (.s a1) := by
  obtain ⟨m, rfl⟩ : ∃ m', m = m' + 1 := ⟨m - 1, by omega⟩
  simp only [W_toPair, T.rows_l]
theorem szPair_ok {m : Nat} (hm : 1048602 ≤ m) (a0 : ByteArray) (a1 : ByteArray)  (l : Int) (hl : (rowSz [.s a0, .s a1] : Int) ≤ l) (hl2 : l ≤ 1048576) (k : T → An) : W_szPair m (.s a0) (.s a1) (.i l) k = k (.i (l - (rowSz [.s a0, .s a1] : Nat))) := by
  obtain ⟨m, rfl⟩ : ∃ m', m = m' + 1 := ⟨m - 1, by omega⟩
  simp only [rowSz, tsz] at hl ⊢
  simp only [W_szPair, T.rows_l, T.int_i, T.str_s]
  rw [show IntKind.i64.wrap (l - (a0.size : Int)) = l - (a0.size : Int) from wrap_i64 (by omega) (by omega)]
  rw [dec_f (by omega)]
  rw [show IntKind.i64.wrap ((l - (a0.size : Int)) - (a1.size : Int)) = (l - (a0.size : Int)) - (a1.size : Int) from wrap_i64 (by omega) (by omega)]
  rw [dec_f (by omega)]
  congr 2; omega
theorem eqPair_ok {m : Nat} (hm : 1048602 ≤ m) (a0 : ByteArray) (a1 : ByteArray)  (k : T → An) : W_eqPair m (.s a0) (.s a1) (.s a0) (.s a1) k = k (.b true) := by
  obtain ⟨m, rfl⟩ : ∃ m', m = m' + 1 := ⟨m - 1, by omega⟩
  simp only [W_eqPair, T.rows_l, T.int_i, T.str_s, T.bool_b, bne_self_eq_false, beq_toList_self, beq_self_eq_true, Bool.not_true, cond_false]
theorem eqPairS_loop (m : Nat) (hm : 1048602 ≤ m) : ∀ (post pre : List (List T)), (∀ r ∈ post, WtRow esPair r) → rowsBulk post ≤ 1048576 → pre.length + post.length ≤ 1048576 →
    ∀ n, post.length < n → ∀ k0 k1, W_eqPairS_L0_0 m n (.l (pre ++ post)) (.l (pre ++ post)) (.i pre.length) k0 k1 = k1
  | [], pre, h, hb, hs, n, hn, k0, k1 => by
    obtain ⟨n, rfl⟩ : ∃ m', n = m' + 1 := ⟨n - 1, by omega⟩
    simp only [W_eqPairS_L0_0, T.int_i, T.rows_l]
    rw [dec_f (by simp)]
  | x :: post, pre, h, hb, hs, n, hn, k0, k1 => by
    obtain ⟨n, rfl⟩ : ∃ m', n = m' + 1 := ⟨n - 1, by omega⟩
    simp only [List.length_cons] at hs hn
    have ih := eqPairS_loop m hm post (pre ++ [x]) (fun r hr => h r (by simp [hr])) (by simp only [rowsBulk] at hb; omega) (by simp; omega) n (by omega) k0 k1
    have hx := h x (by simp)
    simp only [esPair, WtRow, WtT] at hx
    obtain ⟨_, _, rfl, ⟨a0, rfl, -⟩, _, _, rfl, ⟨a1, rfl, -⟩, rfl⟩ := hx
    simp only [rowsBulk, rowBulk, tbulk] at hb
    simp only [W_eqPairS_L0_0, T.int_i, T.rows_l, ix_row, ix_nx pre (by omega), List.getD_cons_zero, List.getD_cons_succ]
    rw [dec_t (by simp; omega), dec_t (by simp; omega), dec_t (by simp; omega)]
    rw [eqPair_ok (by omega) a0 a1]
    simpa using ih
theorem eqPairS_ok {m : Nat} (hm : 1048603 ≤ m) (rows : List (List T)) (h : ∀ r ∈ rows, WtRow esPair r) (hb : rowsBulk rows ≤ 1048576) (k : T → An) : W_eqPairS m (.l rows) (.l rows) k = k (.b true) := by
  obtain ⟨m, rfl⟩ : ∃ m', m = m' + 1 := ⟨m - 1, by omega⟩
  have hlen := wtRows_len (by simp) h
  simp only [W_eqPairS, T.rows_l, T.int_i, bne_self_eq_false, cond_false]
  exact eqPairS_loop m (by omega) rows [] h hb (by simp; omega) m (by omega) _ _
abbrev esItem : List LT := [.sc .str, .sc .str, .sl esString]
theorem toItem_ok {m : Nat} (hm : 1048606 ≤ m) (a0 : ByteArray) (a1 : ByteArray) (a2 : List (List T)) (h2 : ∀ r ∈ a2, WtRow esString r) (b2 : rowsBulk a2 ≤ 1048576) (k : T → T → T → An) : W_toItem m (.s a0) (.s a1) (.l a2) k = k (.s a0) (.s a1) (.l a2) := by
  obtain ⟨m, rfl⟩ : ∃ m', m = m' + 1 := ⟨m - 1, by omega⟩
  simp only [W_toItem, T.rows_l]
  rw [toPair_ok (by omega) a0 a1]
  try simp only [T.rows_l]
  rw [toStringS_ok (by omega) a2 h2 b2]
  try simp only [T.rows_l]
theorem toItemS_loop (m : Nat) (hm : 1048606 ≤ m) : ∀ (post pre z : List (List T)), (∀ r ∈ post, WtRow esItem r) → rowsBulk post ≤ 1048576 → z.length = post.length → (∀ r ∈ z, r.length = 3) → pre.length + post.length ≤ 1048576 →
    ∀ n, post.length < n → ∀ k0, W_toItemS_L0_0 m n (.l (pre ++ post)) (.i pre.length) (.l (pre ++ z)) k0 = k0 (.l (pre ++ post))
  | [], pre, z, h, hb, hz, hz2, hs, n, hn, k0 => by
    obtain ⟨n, rfl⟩ : ∃ m', n = m' + 1 := ⟨n - 1, by omega⟩
    obtain rfl : z = [] := List.eq_nil_of_length_eq_zero hz
    simp only [W_toItemS_L0_0, T.int_i, T.rows_l]
    rw [dec_f (by simp)]
  | x :: post, pre, z, h, hb, hz, hz2, hs, n, hn, k0 => by
    obtain ⟨n, rfl⟩ : ∃ m', n = m' + 1 := ⟨n - 1, by omega⟩
    simp only [List.length_cons] at hs hn hz
    match z, hz, hz2 with
    | r :: z, hz, hz2 =>
    simp only [List.length_cons] at hz
    match r, hz2 r (by simp) with
    | [c0, c1, c2], _ =>
    have ih := toItemS_loop m hm post (pre ++ [x]) z (fun r hr => h r (by simp [hr])) (by simp only [rowsBulk] at hb; omega) (by omega) (fun r hr => hz2 r (by simp [hr])) (by simp; omega) n (by omega) k0
    have hx := h x (by simp)
    simp only [esItem, WtRow, WtT] at hx
    obtain ⟨_, _, rfl, ⟨a0, rfl, -⟩, _, _, rfl, ⟨a1, rfl, -⟩, _, _, rfl, ⟨a2, rfl, h2⟩, rfl⟩ := hx
    simp only [rowsBulk, rowBulk, tbulk] at hb
    simp only [W_toItemS_L0_0, T.int_i, T.rows_l, ix_row, ix_nx pre (by omega), set_row, List.getD_cons_zero, List.getD_cons_succ, List.set_cons_zero, List.set_cons_succ]
    rw [dec_t (by simp; omega), dec_t (by simp; omega)]
    rw [toItem_ok (by omega) a0 a1 a2 h2 (by omega), dec_t (by simp; omega), dec_t (by simp)]
    simpa using ih
theorem toItemS_ok {m : Nat} (hm : 1048607 ≤ m) (rows : List (List T)) (h : ∀ r ∈ rows, WtRow esItem r) (hb : rowsBulk rows ≤ 1048576) (k : T → An) : W_toItemS m (.l rows) k = k (.l rows) := by
  obtain ⟨m, rfl⟩ : ∃ m', m = m' + 1 := ⟨m - 1, by omega⟩
  have hl := wtRows_len (by simp) h
  simp only [W_toItemS, T.rows_l, T.int_i]
  rw [dec_t (by omega), dec_t (by unfold maxCells; omega)]
  exact toItemS_loop m (by omega) rows [] (List.replicate _ _) h hb (by simp) (fun r hr => by rw [List.eq_of_mem_replicate hr]; rfl) (by simp; omega) m (by omega) _
theorem szItem_ok {m : Nat} (hm : 1048606 ≤ m) (a0 : ByteArray) (a1 : ByteArray) (a2 : List (List T)) (h2 : ∀ r ∈ a2, WtRow esString r) (b2 : rowsBulk a2 ≤ 1048576) (l : Int) (hl : (rowSz [.s a0, .s a1, .l a2] : Int) ≤ l) (hl2 : l ≤ 1048576) (k : T → An) : W_szItem m (.s a0) (.s a1) (.l a2) (.i l) k = k (.i (l - (rowSz [.s a0, .s a1, .l a2] : Nat))) := by
  obtain ⟨m, rfl⟩ : ∃ m', m = m' + 1 := ⟨m - 1, by omega⟩
  simp only [rowSz, tsz] at hl ⊢
  simp only [W_szItem, T.rows_l, T.int_i, T.str_s]
  have ec : rowSz [.s a0, .s a1] = a0.size + a1.size := by simp only [rowSz, tsz]; omega
  rw [szPair_ok (by omega) a0 a1 l (by omega) (by omega), T.int_i, dec_f (by omega)]
  rw [szStringS_ok (by omega) a2 h2 b2 (l - (rowSz [.s a0, .s a1] : Nat)) (by omega) (by omega), T.int_i, dec_f (by omega)]
  congr 2; omega
theorem szItemS_loop (m : Nat) (hm : 1048606 ≤ m) : ∀ (post pre : List (List T)) (l : Int), (∀ r ∈ post, WtRow esItem r) → rowsBulk post ≤ 1048576 → (rowsSz post : Int) ≤ l → l ≤ 1048576 → pre.length + post.length ≤ 1048576 →
    ∀ n, post.length < n → ∀ k0 k1, W_szItemS_L0_0 m n (.l (pre ++ post)) (.i l) (.i pre.length) k0 k1 = k1 (.i (l - rowsSz post))
  | [], pre, l, h, hb, hl, hl2, hs, n, hn, k0, k1 => by
    obtain ⟨n, rfl⟩ : ∃ m', n = m' + 1 := ⟨n - 1, by omega⟩
    simp only [W_szItemS_L0_0, T.int_i, T.rows_l]
    rw [dec_f (by simp)]
    simp [rowsSz]
  | x :: post, pre, l, h, hb, hl, hl2, hs, n, hn, k0, k1 => by
    obtain ⟨n, rfl⟩ : ∃ m', n = m' + 1 := ⟨n - 1, by omega⟩
    simp only [List.length_cons] at hs hn
    simp only [rowsSz] at hl ⊢
    have ih := fun l hl hl2 => szItemS_loop m hm post (pre ++ [x]) l (fun r hr => h r (by simp [hr])) (by simp only [rowsBulk] at hb; omega) hl hl2 (by simp; omega) n (by omega) k0 k1
    have hx := h x (by simp)
    simp only [esItem, WtRow, WtT] at hx
    obtain ⟨_, _, rfl, ⟨a0, rfl, -⟩, _, _, rfl, ⟨a1, rfl, -⟩, _, _, rfl, ⟨a2, rfl, h2⟩, rfl⟩ := hx
    simp only [rowsBulk, rowBulk, tbulk] at hb
    simp only [W_szItemS_L0_0, T.int_i, T.rows_l, ix_row, ix_nx pre (by omega), List.getD_cons_zero, List.getD_cons_succ]
    rw [dec_t (by simp; omega), dec_t (by simp; omega)]
    rw [szItem_ok (by omega) a0 a1 a2 h2 (by omega) l (by omega) hl2, T.int_i, dec_f (by omega)]
    have := ih (l - (rowSz [.s a0, .s a1, .l a2] : Nat)) (by omega) (by omega)
    simp only [List.append_assoc, List.cons_append, List.nil_append, len_snoc] at this
    refine this.trans ?_
    congr 2; omega
theorem szItemS_ok {m : Nat} (hm : 1048607 ≤ m) (rows : List (List T)) (h : ∀ r ∈ rows, WtRow esItem r) (hb : rowsBulk rows ≤ 1048576) (l : Int) (hl : ((rows.length + rowsSz rows : Nat) : Int) ≤ l) (hl2 : l ≤ 1048576) (k : T → An) : W_szItemS m (.l rows) (.i l) k = k (.i (l - (rows.length + rowsSz rows : Nat))) := by
  obtain ⟨m, rfl⟩ : ∃ m', m = m' + 1 := ⟨m - 1, by omega⟩
  have hlen := wtRows_len (by simp) h
  simp only [W_szItemS, T.rows_l, T.int_i]
  rw [show IntKind.i64.wrap (l - (rows.length : Int)) = l - (rows.length : Int) from wrap_i64 (by omega) (by omega), dec_f (by omega)]
  refine (szItemS_loop m (by omega) rows [] (l - rows.length) h hb (by omega) (by omega) (by simp; omega) m (by omega) _ _).trans ?_
  congr 2; omega
theorem eqItem_ok {m : Nat} (hm : 1048606 ≤ m) (a0 : ByteArray) (a1 : ByteArray) (a2 : List (List T)) (h2 : ∀ r ∈ a2, WtRow esString r) (b2 : rowsBulk a2 ≤ 1048576) (k : T → An) : W_eqItem m (.s a0) (.s a1) (.l a2) (.s a0) (.s a1) (.l a2) k = k (.b true) := by
  obtain ⟨m, rfl⟩ : ∃ m', m = m' + 1 := ⟨m - 1, by omega⟩
  simp only [W_eqItem, T.rows_l, T.int_i, T.str_s, T.bool_b, bne_self_eq_false, beq_toList_self, beq_self_eq_true, Bool.not_true, cond_false, eqPair_ok (m := m) (by omega) a0 a1, eqStringS_ok (m := m) (by omega) a2 h2 b2]
theorem eqItemS_loop (m : Nat) (hm : 1048606 ≤ m) : ∀ (post pre : List (List T)), (∀ r ∈ post, WtRow esItem r) → rowsBulk post ≤ 1048576 → pre.length + post.length ≤ 1048576 →
    ∀ n, post.length < n → ∀ k0 k1, W_eqItemS_L0_0 m n (.l (pre ++ post)) (.l (pre ++ post)) (.i pre.length) k0 k1 = k1
  | [], pre, h, hb, hs, n, hn, k0, k1 => by
    obtain ⟨n, rfl⟩ : ∃ m', n = m' + 1 := ⟨n - 1, by omega⟩
    simp only [W_eqItemS_L0_0, T.int_i, T.rows_l]
    rw [dec_f (by simp)]
  | x :: post, pre, h, hb, hs, n, hn, k0, k1 => by
    obtain ⟨n, rfl⟩ : ∃ m', n = m' + 1 := ⟨n - 1, by omega⟩
    simp only [List.length_cons] at hs hn
    have ih := eqItemS_loop m hm post (pre ++ [x]) (fun r hr => h r (by simp [hr])) (by simp only [rowsBulk] at hb; omega) (by simp; omega) n (by omega) k0 k1
    have hx := h x (by simp)
    simp only [esItem, WtRow, WtT] at hx
    obtain ⟨_, _, rfl, ⟨a0, rfl, -⟩, _, _, rfl, ⟨a1, rfl, -⟩, _, _, rfl, ⟨a2, rfl, h2⟩, rfl⟩ := hx
    simp only [rowsBulk, rowBulk, tbulk] at hb
    simp only [W_eqItemS_L0_0, T.int_i, T.rows_l, ix_row, ix_nx pre (by omega), List.getD_cons_zero, List.getD_cons_succ]
    rw [dec_t (by simp; omega), dec_t (by simp; omega), dec_t (by simp; omega)]
    rw [eqItem_ok (by omega) a0 a1 a2 h2 (by omega)]
    simpa using ih
theorem eqItemS_ok {m : Nat} (hm : 1048607 ≤ m) (rows : List (List T)) (h : ∀ r ∈ rows, WtRow esItem r) (hb : rowsBulk rows ≤ 1048576) (k : T → An) : W_eqItemS m (.l rows) (.l rows) k = k (.b true) := by
  obtain ⟨m, rfl⟩ : ∃ m', m = m' + 1 := ⟨m - 1, by omega⟩
  have hlen := wtRows_len (by simp) h
  simp only [W_eqItemS, T.rows_l, T.int_i, bne_self_eq_false, cond_false]
  exact eqItemS_loop m (by omega) rows [] h hb (by simp; omega) m (by omega) _ _
abbrev esProof : List LT := [.sc (.int .i64), .sc (.int .i64), .sl esItem]
theorem toProof_ok {m : Nat} (hm : 1048610 ≤ m) (a0 : Int) (a1 : Int) (a2 : List (List T)) (h2 : ∀ r ∈ a2, WtRow esItem r) (b2 : rowsBulk a2 ≤ 1048576) (k : T → T → T → An) : W_toProof m (.i a0) (.i a1) (.l a2) k = k (.i a0) (.i a1) (.l a2) := by
  obtain ⟨m, rfl⟩ : ∃ m', m = m' + 1 := ⟨m - 1, by omega⟩
  simp only [W_toProof, T.rows_l]
  rw [toItemS_ok (by omega) a2 h2 b2]
  try simp only [T.rows_l]
theorem toProofS_loop (m : Nat) (hm : 1048610 ≤ m) : ∀ (post pre z : List (List T)), (∀ r ∈ post, WtRow esProof r) → rowsBulk post ≤ 1048576 → z.length = post.length → (∀ r ∈ z, r.length = 3) → pre.length + post.length ≤ 1048576 →
    ∀ n, post.length < n → ∀ k0, W_toProofS_L0_0 m n (.l (pre ++ post)) (.i pre.length) (.l (pre ++ z)) k0 = k0 (.l (pre ++ post))
  | [], pre, z, h, hb, hz, hz2, hs, n, hn, k0 => by
    obtain ⟨n, rfl⟩ : ∃ m', n = m' + 1 := ⟨n - 1, by omega⟩
    obtain rfl : z = [] := List.eq_nil_of_length_eq_zero hz
    simp only [W_toProofS_L0_0, T.int_i, T.rows_l]
    rw [dec_f (by simp)]
  | x :: post, pre, z, h, hb, hz, hz2, hs, n, hn, k0 => by
    obtain ⟨n, rfl⟩ : ∃ m', n = m' + 1 := ⟨n - 1, by omega⟩
    simp only [List.length_cons] at hs hn hz
    match z, hz, hz2 with
    | r :: z, hz, hz2 =>
    simp only [List.length_cons] at hz
    match r, hz2 r (by simp) with
    | [c0, c1, c2], _ =>
    have ih := toProofS_loop m hm post (pre ++ [x]) z (fun r hr => h r (by simp [hr])) (by simp only [rowsBulk] at hb; omega) (by omega) (fun r hr => hz2 r (by simp [hr])) (by simp; omega) n (by omega) k0
    have hx := h x (by simp)
    simp only [esProof, WtRow, WtT] at hx
    obtain ⟨_, _, rfl, ⟨a0, rfl, -⟩, _, _, rfl, ⟨a1, rfl, -⟩, _, _, rfl, ⟨a2, rfl, h2⟩, rfl⟩ := hx
    simp only [rowsBulk, rowBulk, tbulk] at hb
    simp only [W_toProofS_L0_0, T.int_i, T.rows_l, ix_row, ix_nx pre (by omega), set_row, List.getD_cons_zero, List.getD_cons_succ, List.set_cons_zero, List.set_cons_succ]
    rw [dec_t (by simp; omega), dec_t (by simp; omega)]
    rw [toProof_ok (by omega) a0 a1 a2 h2 (by omega), dec_t (by simp; omega), dec_t (by simp)]
    simpa using ih
theorem toProofS_ok {m : Nat} (hm : 1048611 ≤ m) (rows : List (List T)) (h : ∀ r ∈ rows, WtRow esProof r) (hb : rowsBulk rows ≤ 1048576) (k : T → An) : W_toProofS m (.l rows) k = k (.l rows) := by
  obtain ⟨m, rfl⟩ : ∃ m', m = m' + 1 := ⟨m - 1, by omega⟩
  have hl := wtRows_len (by simp) h
  simp only [W_toProofS, T.rows_l, T.int_i]
  rw [dec_t (by omega), dec_t (by unfold maxCells; omega)]
  exact toProofS_loop m (by omega) rows [] (List.replicate _ _) h hb (by simp) (fun r hr => by rw [List.eq_of_mem_replicate hr]; rfl) (by simp; omega) m (by omega) _
theorem szProof_ok {m : Nat} (hm : 1048610 ≤ m) (a0 : Int) (a1 : Int) (a2 : List (List T)) (h2 : ∀ r ∈ a2, WtRow esItem r) (b2 : rowsBulk a2 ≤ 1048576) (l : Int) (hl : (rowSz [.i a0, .i a1, .l a2] : Int) ≤ l) (hl2 : l ≤ 1048576) (k : T → An) : W_szProof m (.i a0) (.i a1) (.l a2) (.i l) k = k (.i (l - (rowSz [.i a0, .i a1, .l a2] : Nat))) := by
  obtain ⟨m, rfl⟩ : ∃ m', m = m' + 1 := ⟨m - 1, by omega⟩
  simp only [rowSz, tsz] at hl ⊢
  simp only [W_szProof, T.rows_l, T.int_i, T.str_s]
  rw [szItemS_ok (by omega) a2 h2 b2 l (by omega) (by omega), T.int_i, dec_f (by omega)]
  congr 2; omega
theorem szProofS_loop (m : Nat) (hm : 1048610 ≤ m) : ∀ (post pre : List (List T)) (l : Int), (∀ r ∈ post, WtRow esProof r) → rowsBulk post ≤ 1048576 → (rowsSz post : Int) ≤ l → l ≤ 1048576 → pre.length + post.length ≤ 1048576 →
    ∀ n, post.length < n → ∀ k0 k1, W_szProofS_L0_0 m n (.l (pre ++ post)) (.i l) (.i pre.length) k0 k1 = k1 (.i (l - rowsSz post))
  | [], pre, l, h, hb, hl, hl2, hs, n, hn, k0, k1 => by
    obtain ⟨n, rfl⟩ : ∃ m', n = m' + 1 := ⟨n - 1, by omega⟩
    simp only [W_szProofS_L0_0, T.int_i, T.rows_l]
    rw [dec_f (by simp)]
    simp [rowsSz]
  | x :: post, pre, l, h, hb, hl, hl2, hs, n, hn, k0, k1 => by
    obtain ⟨n, rfl⟩ : ∃ m', n = m' + 1 := ⟨n - 1, by omega⟩
    simp only [List.length_cons] at hs hn
    simp only [rowsSz] at hl ⊢
    have ih := fun l hl hl2 => szProofS_loop m hm post (pre ++ [x]) l (fun r hr => h r (by simp [hr])) (by simp only [rowsBulk] at hb; omega) hl hl2 (by simp; omega) n (by omega) k0 k1
    have hx := h x (by simp)
    simp only [esProof, WtRow, WtT] at hx
    obtain ⟨_, _, rfl, ⟨a0, rfl, -⟩, _, _, rfl, ⟨a1, rfl, -⟩, _, _, rfl, ⟨a2, rfl, h2⟩, rfl⟩ := hx
    simp only [rowsBulk, rowBulk, tbulk] at hb
    simp only [W_szProofS_L0_0, T.int_i, T.rows_l, ix_row, ix_nx pre (by omega), List.getD_cons_zero, List.getD_cons_succ]
    rw [dec_t (by simp; omega), dec_t (by simp; omega)]
    rw [szProof_ok (by omega) a0 a1 a2 h2 (by omega) l (by omega) hl2, T.int_i, dec_f (by omega)]
    have := ih (l - (rowSz [.i a0, .i a1, .l a2] : Nat)) (by omega) (by omega)
    simp only [List.append_assoc, List.cons_append, List.nil_append, len_snoc] at this
    refine this.trans ?_
    congr 2; omega
theorem szProofS_ok {m : Nat} (hm : 1048611 ≤ m) (rows : List (List T)) (h : ∀ r ∈ rows, WtRow esProof r) (hb : rowsBulk rows ≤ 1048576) (l : Int) (hl : ((rows.length + rowsSz rows : Nat) : Int) ≤ l) (hl2 : l ≤ 1048576) (k : T → An) : W_szProofS m (.l rows) (.i l) k = k (.i (l - (rows.length + rowsSz rows : Nat))) := by
  obtain ⟨m, rfl⟩ : ∃ m', m = m' + 1 := ⟨m - 1, by omega⟩
  have hlen := wtRows_len (by simp) h
  simp only [W_szProofS, T.rows_l, T.int_i]
  rw [show IntKind.i64.wrap (l - (rows.length : Int)) = l - (rows.length : Int) from wrap_i64 (by omega) (by omega), dec_f (by omega)]
  refine (szProofS_loop m (by omega) rows [] (l - rows.length) h hb (by omega) (by omega) (by simp; omega) m (by omega) _ _).trans ?_
  congr 2; omega
theorem eqProof_ok {m : Nat} (hm : 1048610 ≤ m) (a0 : Int) (a1 : Int) (a2 : List (List T)) (h2 : ∀ r ∈ a2, WtRow esItem r) (b2 : rowsBulk a2 ≤ 1048576) (k : T → An) : W_eqProof m (.i a0) (.i a1) (.l a2) (.i a0) (.i a1) (.l a2) k = k (.b true) := by
  obtain ⟨m, rfl⟩ : ∃ m', m = m' + 1 := ⟨m - 1, by omega⟩
  simp only [W_eqProof, T.rows_l, T.int_i, T.str_s, T.bool_b, bne_self_eq_false, beq_toList_self, beq_self_eq_true, Bool.not_true, cond_false, eqItemS_ok (m := m) (by omega) a2 h2 b2]
theorem eqProofS_loop (m : Nat) (hm : 1048610 ≤ m) : ∀ (post pre : List (List T)), (∀ r ∈ post, WtRow esProof r) → rowsBulk post ≤ 1048576 → pre.length + post.length ≤ 1048576 →
    ∀ n, post.length < n → ∀ k0 k1, W_eqProofS_L0_0 m n (.l (pre ++ post)) (.l (pre ++ post)) (.i pre.length) k0 k1 = k1
  | [], pre, h, hb, hs, n, hn, k0, k1 => by
    obtain ⟨n, rfl⟩ : ∃ m', n = m' + 1 := ⟨n - 1, by omega⟩
    simp only [W_eqProofS_L0_0, T.int_i, T.rows_l]
    rw [dec_f (by simp)]
  | x :: post, pre, h, hb, hs, n, hn, k0, k1 => by
    obtain ⟨n, rfl⟩ : ∃ m', n = m' + 1 := ⟨n - 1, by omega⟩
    simp only [List.length_cons] at hs hn
    have ih := eqProofS_loop m hm post (pre ++ [x]) (fun r hr => h r (by simp [hr])) (by simp only [rowsBulk] at hb; omega) (by simp; omega) n (by omega) k0 k1
    have hx := h x (by simp)
    simp only [esProof, WtRow, WtT] at hx
    obtain ⟨_, _, rfl, ⟨a0, rfl, -⟩, _, _, rfl, ⟨a1, rfl, -⟩, _, _, rfl, ⟨a2, rfl, h2⟩, rfl⟩ := hx
    simp only [rowsBulk, rowBulk, tbulk] at hb
    simp only [W_eqProofS_L0_0, T.int_i, T.rows_l, ix_row, ix_nx pre (by omega), List.getD_cons_zero, List.getD_cons_succ]
    rw [dec_t (by simp; omega), dec_t (by simp; omega), dec_t (by simp; omega)]
    rw [eqProof_ok (by omega) a0 a1 a2 h2 (by omega)]
    simpa using ih
theorem eqProofS_ok {m : Nat} (hm : 1048611 ≤ m) (rows : List (List T)) (h : ∀ r ∈ rows, WtRow esProof r) (hb : rowsBulk rows ≤ 1048576) (k : T → An) : W_eqProofS m (.l rows) (.l rows) k = k (.b true) := by
  obtain ⟨m, rfl⟩ : ∃ m', m = m' + 1 := ⟨m - 1, by omega⟩
  have hlen := wtRows_len (by simp) h
  simp only [W_eqProofS, T.rows_l, T.int_i, bne_self_eq_false, cond_false]
  exact eqProofS_loop m (by omega) rows [] h hb (by simp; omega) m (by omega) _ _
abbrev esBundle : List LT := [.sc (.int .i64), .sc .str, .sl esString, .sl esProof]
theorem toBundle_ok {m : Nat} (hm : 1048614 ≤ m) (a0 : Int) (a1 : ByteArray) (a2 : List (List T)) (a3 : List (List T)) (h2 : ∀ r ∈ a2, WtRow esString r) (b2 : rowsBulk a2 ≤ 1048576) (h3 : ∀ r ∈ a3, WtRow esProof r) (b3 : rowsBulk a3 ≤ 1048576) (k : T → T → T → T → An) : W_toBundle m (.i a0) (.s a1) (.l a2) (.l a3) k = k (.i a0) (.s a1) (.l a2) (.l a3) := by
  obtain ⟨m, rfl⟩ : ∃ m', m = m' + 1 := ⟨m - 1, by omega⟩
  simp only [W_toBundle, T.rows_l]
  rw [toStringS_ok (by omega) a2 h2 b2]
  try simp only [T.rows_l]
  rw [toProofS_ok (by omega) a3 h3 b3]
  try simp only [T.rows_l]
theorem szBundle_ok {m : Nat} (hm : 1048614 ≤ m) (a0 : Int) (a1 : ByteArray) (a2 : List (List T)) (a3 : List (List T)) (h2 : ∀ r ∈ a2, WtRow esString r) (b2 : rowsBulk a2 ≤ 1048576) (h3 : ∀ r ∈ a3, WtRow esProof r) (b3 : rowsBulk a3 ≤ 1048576) (l : Int) (hl : (rowSz [.i a0, .s a1, .l a2, .l a3] : Int) ≤ l) (hl2 : l ≤ 1048576) (k : T → An) : W_szBundle m (.i a0) (.s a1) (.l a2) (.l a3) (.i l) k = k (.i (l - (rowSz [.i a0, .s a1, .l a2, .l a3] : Nat))) := by
  obtain ⟨m, rfl⟩ : ∃ m', m = m' + 1 := ⟨m - 1, by omega⟩
  simp only [rowSz, tsz] at hl ⊢
  simp only [W_szBundle, T.rows_l, T.int_i, T.str_s]
  rw [show IntKind.i64.wrap (l - (a1.size : Int)) = l - (a1.size : Int) from wrap_i64 (by omega) (by omega)]
  rw [dec_f (by omega)]
  rw [szStringS_ok (by omega) a2 h2 b2 (l - (a1.size : Int)) (by omega) (by omega), T.int_i, dec_f (by omega)]
  rw [szProofS_ok (by omega) a3 h3 b3 ((l - (a1.size : Int)) - ((a2.length + rowsSz a2 : Nat) : Int)) (by omega) (by omega), T.int_i, dec_f (by omega)]
  congr 2; omega
theorem eqBundle_ok {m : Nat} (hm : 1048614 ≤ m) (a0 : Int) (a1 : ByteArray) (a2 : List (List T)) (a3 : List (List T)) (h2 : ∀ r ∈ a2, WtRow esString r) (b2 : rowsBulk a2 ≤ 1048576) (h3 : ∀ r ∈ a3, WtRow esProof r) (b3 : rowsBulk a3 ≤ 1048576) (k : T → An) : W_eqBundle m (.i a0) (.s a1) (.l a2) (.l a3) (.i a0) (.s a1) (.l a2) (.l a3) k = k (.b true) := by
  obtain ⟨m, rfl⟩ : ∃ m', m = m' + 1 := ⟨m - 1, by omega⟩
  simp only [W_eqBundle, T.rows_l, T.int_i, T.str_s, T.bool_b, bne_self_eq_false, beq_toList_self, beq_self_eq_true, Bool.not_true, cond_false, eqStringS_ok (m := m) (by omega) a2 h2 b2, eqProofS_ok (m := m) (by omega) a3 h3 b3]
end Go.Proofs.YtdhldbjjdlnbmaaGreat

namespace Go.Proofs.YtdhldbjjdlnbmaaGreat
open Go Go.E Go.Proofs
def nb (n : Nat) : Nat := ((n &&& 127) ||| 128) % 256
def numGo : Nat → Nat → List Nat → List Nat × Nat
  | 0, n, acc => (acc, n)
  | f + 1, n, acc => if 127 < n then numGo f (n / 128) (acc ++ [nb n]) else (acc, n)
def clampN (z : Int) : Nat := (max 0 (min z 1000000000)).toNat
def putN' (z : Int) (out : List Nat) : List Nat := (numGo 5 (clampN z) out).1 ++ [(numGo 5 (clampN z) out).2 % 256]
theorem numGo_len : ∀ (f n : Nat) (acc : List Nat), acc.length ≤ (numGo f n acc).1.length ∧ (numGo f n acc).1.length ≤ acc.length + f
  | 0, n, acc => ⟨Nat.le_refl _, Nat.le_refl _⟩
  | f + 1, n, acc => by
    unfold numGo
    split
    · have := numGo_len f (n / 128) (acc ++ [nb n])
      simp at this
      omega
    · simp
theorem nb_lt (n : Nat) : nb n < 256 := Nat.mod_lt _ (by omega)
theorem nb_spec {n : Nat} (h : n < 4294967296) : IntKind.u8.wrap (bvBack .i64 (BitVec.ofInt IntKind.i64.bits (bvBack .i64 (BitVec.ofInt IntKind.i64.bits (n : Int) &&& BitVec.ofInt IntKind.i64.bits 127)).int ||| BitVec.ofInt IntKind.i64.bits 128)).int = ((nb n : Nat) : Int) := by
  have e1 := and32 (a := n) (b := 127) h (by omega)
  rw [show ((127 : Nat) : Int) = 127 from rfl] at e1
  rw [e1]
  have h2 : n &&& 127 < 4294967296 := and_lt h
  have e2 := or64 (a := n &&& 127) (b := 128) (by omega) (by omega)
  rw [show ((128 : Nat) : Int) = 128 from rfl] at e2
  rw [T.int_i, e2, T.int_i, wrap_u8]
  rfl
theorem nb_impl {n : Nat} (h : n < 4294967296) : IntKind.u8.wrap (bvBack .i64 (BitVec.ofInt IntKind.i64.bits 128 ||| BitVec.ofInt IntKind.i64.bits (bvBack .i64 (BitVec.ofInt IntKind.i64.bits (n : Int) &&& BitVec.ofInt IntKind.i64.bits 127)).int)).int = ((nb n : Nat) : Int) := by
  have e1 := and32 (a := n) (b := 127) h (by omega)
  rw [show ((127 : Nat) : Int) = 127 from rfl] at e1
  rw [e1]
  have h2 : n &&& 127 < 4294967296 := and_lt h
  have e2 := or64 (a := 128) (b := n &&& 127) (by omega) (by omega)
  rw [show ((128 : Nat) : Int) = 128 from rfl] at e2
  rw [T.int_i, e2, T.int_i, wrap_u8, Nat.or_comm]
  rfl
theorem numL (m : Nat) : ∀ (f n : Nat) (acc : List Nat), n < 128 ^ (f + 1) → n < 4294967296 → acc.length + f ≤ 1073741824 → ∀ N, f < N → ∀ k0,
    S_PutNum_L0_0 m N (.i (n : Int)) (.l (nr acc)) k0 = k0 (.i ((numGo f n acc).2 : Nat)) (.l (nr (numGo f n acc).1))
  | 0, n, acc, h, h2, hl, N, hN, k0 => by
    obtain ⟨N, rfl⟩ : ∃ m', N = m' + 1 := ⟨N - 1, by omega⟩
    simp only [S_PutNum_L0_0, T.rows_l, T.int_i, numGo]
    rw [dec_f (by simp at h; omega)]
  | f + 1, n, acc, h, h2, hl, N, hN, k0 => by
    obtain ⟨N, rfl⟩ : ∃ m', N = m' + 1 := ⟨N - 1, by omega⟩
    have s1 : (min (Int.toNat 7) IntKind.i64.bits) = 7 := rfl
    simp only [S_PutNum_L0_0, T.rows_l, T.int_i, numGo, nr_len, s1, fdiv_nat, nb_spec h2]
    by_cases hn : 127 < n
    · rw [dec_t (by omega), dec_t (by unfold maxRow; omega), if_pos hn, nr_snoc]
      exact numL m f (n / 128) (acc ++ [nb n]) (by rw [Nat.pow_succ] at h; exact Nat.div_lt_of_lt_mul (by rw [Nat.mul_comm]; exact h)) (by omega) (by simp; omega) N (by omega) k0
    · rw [dec_f (by omega), if_neg hn]
theorem inumL1 (m : Nat) : ∀ (f n : Nat) (acc : List Nat), n < 128 ^ (f + 1) → n < 4294967296 → acc.length + f ≤ 1073741824 → ∀ N, f < N → ∀ k0 k1,
    M_putNum_L0_1 m N (.i (n : Int)) (.l (nr acc)) k0 k1 = k0 (.i ((numGo f n acc).2 : Nat)) (.l (nr (numGo f n acc).1))
  | 0, n, acc, h, h2, hl, N, hN, k0, k1 => by
    obtain ⟨N, rfl⟩ : ∃ m', N = m' + 1 := ⟨N - 1, by omega⟩
    simp only [M_putNum_L0_1, T.rows_l, T.int_i, numGo]
    rw [dec_f (by simp at h; omega)]
  | f + 1, n, acc, h, h2, hl, N, hN, k0, k1 => by
    obtain ⟨N, rfl⟩ : ∃ m', N = m' + 1 := ⟨N - 1, by omega⟩
    have s1 : (min (Int.toNat 7) IntKind.i64.bits) = 7 := rfl
    simp only [M_putNum_L0_1, T.rows_l, T.int_i, numGo, nr_len, s1, fdiv_nat, nb_impl h2]
    by_cases hn : 127 < n
    · rw [dec_t (by omega), dec_t (by unfold maxRow; omega), if_pos hn, nr_snoc]
      exact inumL1 m f (n / 128) (acc ++ [nb n]) (by rw [Nat.pow_succ] at h; exact Nat.div_lt_of_lt_mul (by rw [Nat.mul_comm]; exact h)) (by omega) (by simp; omega) N (by omega) k0 k1
    · rw [dec_f (by omega), if_neg hn]
theorem inumL0 (m f n : Nat) (acc : List Nat) (h : n < 128 ^ (f + 2)) (h2 : n < 4294967296) (hl : acc.length + f + 1 ≤ 1073741824) (N : Nat) (hN : f + 1 < N) (K : T → T → An) :
    M_putNum_L0_0 m N (.i (n : Int)) (.l (nr acc)) K K = K (.i ((numGo (f + 1) n acc).2 : Nat)) (.l (nr (numGo (f + 1) n acc).1)) := by
  obtain ⟨N, rfl⟩ : ∃ m', N = m' + 1 := ⟨N - 1, by omega⟩
  have s1 : (min (Int.toNat 7) IntKind.i64.bits) = 7 := rfl
  simp only [M_putNum_L0_0, T.rows_l, T.int_i, numGo, nr_len, s1, fdiv_nat, nb_impl h2]
  by_cases hn : 127 < n
  · rw [dec_t (by omega), dec_t (by unfold maxRow; omega), if_pos hn, nr_snoc]
    exact inumL1 m f (n / 128) (acc ++ [nb n]) (by rw [Nat.pow_succ] at h; exact Nat.div_lt_of_lt_mul (by rw [Nat.mul_comm]; exact h)) (by omega) (by simp; omega) N (by omega) K K
  · rw [dec_f (by omega), if_neg hn]
theorem clampN_lt (z : Int) : clampN z ≤ 1000000000 := by unfold clampN; omega
theorem S_PutNum_ok {m : Nat} (z : Int) (out : List Nat) (hl : out.length + 10 ≤ 1073741824) (hm : 10 ≤ m) (k : T → An) : S_PutNum m (.l (nr out)) (.i z) k = k (.l (nr (putN' z out))) := by
  obtain ⟨m, rfl⟩ : ∃ m', m = m' + 1 := ⟨m - 1, by omega⟩
  have hc := clampN_lt z
  have hlen := numGo_len 5 (clampN z) out
  simp only [S_PutNum, T.rows_l, T.int_i, nr_len]
  rw [dec_t (by unfold maxRow; omega)]
  have fin : ∀ c : Int, c = ((clampN z : Nat) : Int) → S_PutNum_L0_0 m m (T.i c) (T.l (nr out)) (fun y0 y1 => bif decide ((y1.rows.length + 1) * 1 ≤ maxRow) then k (T.l (y1.rows ++ [[T.i (IntKind.u8.wrap y0.int)]])) else R3.bad) = k (.l (nr (putN' z out))) := by
    intro c hcz
    rw [hcz, numL m 5 (clampN z) out (by omega) (by omega) (by omega) m (by omega)]
    simp only [T.rows_l, T.int_i, nr_len, wrap_u8]
    rw [dec_t (by unfold maxRow; omega), nr_snoc]
    rfl
  by_cases h1 : z > 1000000000
  · rw [dec_t h1]; exact fin _ (by unfold clampN; omega)
  · rw [dec_f h1]
    by_cases h2 : z < 0
    · rw [dec_t h2]; exact fin _ (by unfold clampN; omega)
    · rw [dec_f h2]; exact fin _ (by unfold clampN; omega)
theorem M_putNum_ok {m : Nat} (z : Int) (out : List Nat) (hl : out.length + 10 ≤ 1073741824) (hm : 10 ≤ m) (k : T → An) : M_putNum m (.l (nr out)) (.i z) k = k (.l (nr (putN' z out))) := by
  obtain ⟨m, rfl⟩ : ∃ m', m = m' + 1 := ⟨m - 1, by omega⟩
  have hc := clampN_lt z
  have hlen := numGo_len 5 (clampN z) out
  have hz : maxI 0 (minI z 1000000000) = ((clampN z : Nat) : Int) := by unfold clampN maxI minI; split <;> split <;> omega
  simp only [M_putNum, T.rows_l, T.int_i, hz]
  rw [inumL0 m 4 (clampN z) out (by omega) (by omega) (by omega) m (by omega), show 4 + 1 = 5 from rfl]
  simp only [T.rows_l, T.int_i, nr_len, wrap_u8]
  rw [dec_t (by unfold maxRow; omega), nr_snoc]
  rfl
end Go.Proofs.YtdhldbjjdlnbmaaGreat

namespace Go.Proofs.YtdhldbjjdlnbmaaGreat
open Go Go.E Go.Proofs
def bN (s : ByteArray) : List Nat := s.data.toList.map fun b => b.toNat
theorem bytesRows_nr (s : ByteArray) : bytesRows s = nr (bN s) := by
  unfold bytesRows nr bN
  rw [List.map_map]
  rfl
theorem bN_len (s : ByteArray) : (bN s).length = s.size := by unfold bN; rw [List.length_map]; exact (ba_size s).symm
def putT (s : ByteArray) (out : List Nat) : List Nat := putN' (s.size : Int) out ++ bN s
theorem putN_len (z : Int) (out : List Nat) : out.length ≤ (putN' z out).length ∧ (putN' z out).length ≤ out.length + 6 := by
  have := numGo_len 5 (clampN z) out
  unfold putN'
  simp
  omega
theorem putT_len (s : ByteArray) (out : List Nat) : out.length ≤ (putT s out).length ∧ (putT s out).length ≤ out.length + 6 + s.size := by
  have := putN_len (s.size : Int) out
  unfold putT
  rw [List.length_append, bN_len]
  omega
theorem S_PutText_ok {m : Nat} (s : ByteArray) (out : List Nat) (hl : out.length + s.size + 20 ≤ 1073741824) (hm : 20 ≤ m) (k : T → An) : S_PutText m (.l (nr out)) (.s s) k = k (.l (nr (putT s out))) := by
  obtain ⟨m, rfl⟩ : ∃ m', m = m' + 1 := ⟨m - 1, by omega⟩
  have := putN_len (s.size : Int) out
  simp only [S_PutText, T.rows_l, T.str_s]
  rw [S_PutNum_ok _ out (by omega) (by omega)]
  simp only [T.rows_l, bytesRows_nr, nr_len, bN_len]
  rw [dec_t (by unfold maxRow; omega), ← nr_app]
  rfl
theorem M_putText_ok {m : Nat} (s : ByteArray) (out : List Nat) (hl : out.length + s.size + 20 ≤ 1073741824) (hm : 20 ≤ m) (k : T → An) : M_putText m (.l (nr out)) (.s s) k = k (.l (nr (putT s out))) := by
  obtain ⟨m, rfl⟩ : ∃ m', m = m' + 1 := ⟨m - 1, by omega⟩
  have := putN_len (s.size : Int) out
  simp only [M_putText, T.rows_l, T.str_s]
  rw [M_putNum_ok _ out (by omega) (by omega)]
  simp only [T.rows_l, bytesRows_nr, nr_len, bN_len]
  rw [dec_t (by unfold maxRow; omega), ← nr_app]
  rfl
def sr (l : List ByteArray) : List (List T) := l.map fun s => [T.s s]
theorem sr_len (l : List ByteArray) : (sr l).length = l.length := by simp [sr]
theorem sr_get (pre : List ByteArray) (s : ByteArray) (post : List ByteArray) : (((sr (pre ++ s :: post)).getD pre.length []).getD 0 dflt) = .s s := by simp [sr, List.getD]
def sumS (l : List ByteArray) : Nat := (l.map fun s => s.size + 6).sum
def putTs (l : List ByteArray) (out : List Nat) : List Nat := l.foldl (fun o s => putT s o) out
theorem specTexts_loop (m : Nat) (hm : 20 ≤ m) : ∀ (post pre : List ByteArray) (out : List Nat), out.length + sumS post + 20 ≤ 1073741824 → pre.length + post.length ≤ 1073741824 → ∀ n, post.length < n → ∀ k0,
    S_PutTexts_L0_0 m n (.l (sr (pre ++ post))) (.i (pre.length : Int)) (.l (nr out)) k0 = k0 (.l (nr (putTs post out)))
  | [], pre, out, h, h2, n, hn, k0 => by
    obtain ⟨n, rfl⟩ : ∃ m', n = m' + 1 := ⟨n - 1, by omega⟩
    simp only [S_PutTexts_L0_0, T.rows_l, T.int_i, sr_len]
    rw [dec_f (by simp)]
    rfl
  | s :: post, pre, out, h, h2, n, hn, k0 => by
    simp only [List.length_cons] at h2 hn
    obtain ⟨n, rfl⟩ : ∃ m', n = m' + 1 := ⟨n - 1, by omega⟩
    simp only [sumS, List.map_cons, List.sum_cons] at h
    have hl := putT_len s out
    have ih := specTexts_loop m hm post (pre ++ [s]) (putT s out) (by unfold sumS; omega) (by simp; omega) n (by omega) k0
    have f4 : IntKind.i64.wrap ((pre.length : Int) + 1) = (pre.length : Int) + 1 := wrap_i64 (by omega) (by omega)
    simp only [S_PutTexts_L0_0, T.rows_l, T.int_i, sr_len, f4, Int.toNat_natCast, sr_get]
    rw [dec_t (by simp; omega), dec_t (by simp; omega), S_PutText_ok s out (by omega) hm]
    simp only [T.rows_l]
    simpa [putTs] using ih
theorem implTexts_loop (m : Nat) (hm : 20 ≤ m) : ∀ (post pre : List ByteArray) (out : List Nat), out.length + sumS post + 20 ≤ 1073741824 → pre.length + post.length ≤ 1073741824 → ∀ n, post.length < n → ∀ k0,
    M_putTexts_L0_0 m n (.l (sr (pre ++ post))) (.i ((pre ++ post).length : Int)) (.i (pre.length : Int)) (.l (nr out)) k0 = k0 (.l (nr (putTs post out)))
  | [], pre, out, h, h2, n, hn, k0 => by
    obtain ⟨n, rfl⟩ : ∃ m', n = m' + 1 := ⟨n - 1, by omega⟩
    simp only [M_putTexts_L0_0, T.rows_l, T.int_i, sr_len]
    rw [dec_f (by simp)]
    rfl
  | s :: post, pre, out, h, h2, n, hn, k0 => by
    simp only [List.length_cons] at h2 hn
    obtain ⟨n, rfl⟩ : ∃ m', n = m' + 1 := ⟨n - 1, by omega⟩
    simp only [sumS, List.map_cons, List.sum_cons] at h
    have hl := putT_len s out
    have ih := implTexts_loop m hm post (pre ++ [s]) (putT s out) (by unfold sumS; omega) (by simp; omega) n (by omega) k0
    have f4 : IntKind.i64.wrap ((pre.length : Int) + 1) = (pre.length : Int) + 1 := wrap_i64 (by omega) (by omega)
    simp only [M_putTexts_L0_0, T.rows_l, T.int_i, sr_len, f4, Int.toNat_natCast, sr_get]
    rw [dec_t (by simp; omega), dec_t (by simp; omega), M_putText_ok s out (by omega) hm]
    simp only [T.rows_l]
    simpa [putTs] using ih
def superB (no : Int) (prev : ByteArray) (roots : List ByteArray) : List Nat := putTs roots (putN' (roots.length : Int) (putT prev (putN' no [3])))
theorem putTs_len : ∀ (l : List ByteArray) (out : List Nat), (putTs l out).length ≤ out.length + sumS l
  | [], out => by simp [putTs, sumS]
  | s :: l, out => by
    have h1 := putTs_len l (putT s out)
    have h2 := putT_len s out
    simp only [putTs, List.foldl_cons, sumS, List.map_cons, List.sum_cons] at h1 ⊢
    omega
theorem all_app {a b : List Nat} (ha : ∀ x ∈ a, x < 256) (hb : ∀ x ∈ b, x < 256) : ∀ x ∈ a ++ b, x < 256 := fun x hx => (List.mem_append.1 hx).elim (ha x) (hb x)
theorem numGo_bytes : ∀ (f n : Nat) (acc : List Nat), (∀ x ∈ acc, x < 256) → ∀ x ∈ (numGo f n acc).1, x < 256
  | 0, n, acc, h => h
  | f + 1, n, acc, h => by
    unfold numGo
    split
    · exact numGo_bytes f _ _ (all_app h (by simp [nb_lt]))
    · exact h
theorem putN_bytes (z : Int) {out : List Nat} (h : ∀ x ∈ out, x < 256) : ∀ x ∈ putN' z out, x < 256 := by
  unfold putN'
  exact all_app (numGo_bytes _ _ _ h) (by simp; omega)
theorem bN_bytes (s : ByteArray) : ∀ x ∈ bN s, x < 256 := by
  intro x hx
  unfold bN at hx
  obtain ⟨b, -, rfl⟩ := List.mem_map.1 hx
  exact b.toNat_lt
theorem putT_bytes (s : ByteArray) {out : List Nat} (h : ∀ x ∈ out, x < 256) : ∀ x ∈ putT s out, x < 256 := all_app (putN_bytes _ h) (bN_bytes s)
theorem putTs_bytes : ∀ (l : List ByteArray) {out : List Nat}, (∀ x ∈ out, x < 256) → ∀ x ∈ putTs l out, x < 256
  | [], out, h => h
  | s :: l, out, h => by
    show ∀ x ∈ putTs l (putT s out), x < 256
    exact putTs_bytes l (putT_bytes s h)
theorem bytes_all {m : List Nat} (hm : ∀ x ∈ m, x < 256) : Bytes m := fun i => by
  by_cases hi : i < m.length
  · have : m.getD i 0 = m[i] := by simp [List.getD, hi]
    rw [this]
    exact hm _ (List.getElem_mem hi)
  · rw [List.getD, List.getElem?_eq_none (by omega)]; simp
theorem superB_bytes (no : Int) (prev : ByteArray) (roots : List ByteArray) : Bytes (superB no prev roots) :=
  bytes_all (putTs_bytes _ (putN_bytes _ (putT_bytes _ (putN_bytes _ (by simp)))))
theorem superB_len (no : Int) (prev : ByteArray) (roots : List ByteArray) : (superB no prev roots).length ≤ 30 + prev.size + sumS roots := by
  have h1 := putTs_len roots (putN' (roots.length : Int) (putT prev (putN' no [3])))
  have h2 := putN_len (roots.length : Int) (putT prev (putN' no [3]))
  have h3 := putT_len prev (putN' no [3])
  have h4 := putN_len no [3]
  unfold superB
  simp at h4
  omega
def superS (no : Int) (prev : ByteArray) (roots : List ByteArray) : ByteArray := digestB (nr (superB no prev roots))
theorem S_SuperOf_ok {m : Nat} (no : Int) (prev : ByteArray) (roots : List ByteArray) (h : prev.size + sumS roots + 100 ≤ 1073741824) (h2 : roots.length + 100 ≤ m) (hm : 20000100 ≤ m) (k : T → An) :
    S_SuperOf m (.i no) (.s prev) (.l (sr roots)) k = k (.s (superS no prev roots)) := by
  obtain ⟨m, rfl⟩ : ∃ m', m = m' + 2 := ⟨m - 2, by omega⟩
  have l1 := putN_len no [3]
  have l2 := putT_len prev (putN' no [3])
  have l3 := putN_len (roots.length : Int) (putT prev (putN' no [3]))
  have l4 := superB_len no prev roots
  have hr : roots.length ≤ sumS roots := by
    have : ∀ l : List ByteArray, l.length ≤ sumS l := fun l => by
      induction l with
      | nil => simp
      | cons x l ih => simp only [sumS, List.map_cons, List.sum_cons, List.length_cons] at ih ⊢; omega
    exact this roots
  simp at l1
  simp only [S_SuperOf, S_l15Super, T.rows_l]
  rw [show ([[T.i 3]] : List (List T)) = nr [3] from rfl, S_PutNum_ok no [3] (by simp) (by omega)]
  simp only [T.rows_l]
  rw [S_PutText_ok prev _ (by omega) (by omega)]
  obtain ⟨m, rfl⟩ : ∃ m', m = m' + 1 := ⟨m - 1, by omega⟩
  simp only [T.rows_l, S_PutTexts, sr_len]
  rw [S_PutNum_ok _ _ (by omega) (by omega)]
  simp only [T.rows_l]
  have := specTexts_loop m (by omega) roots [] (putN' (roots.length : Int) (putT prev (putN' no [3]))) (by omega) (by simp; omega) m (by omega)
  simp only [List.nil_append, List.length_nil] at this
  rw [show (T.i 0 : T) = .i ((0 : Nat) : Int) from rfl, this]
  simp only [T.rows_l]
  rw [S_Digest_ok (putTs roots (putN' (roots.length : Int) (putT prev (putN' no [3])))) (by unfold superB at l4; omega) (superB_bytes no prev roots) (by omega)]
  rfl
theorem M_SuperOf_ok {m : Nat} (no : Int) (prev : ByteArray) (roots : List ByteArray) (h : prev.size + sumS roots + 100 ≤ 1073741824) (h2 : roots.length + 100 ≤ m) (k : T → An) :
    M_SuperOf m (.i no) (.s prev) (.l (sr roots)) k = k (.s (superS no prev roots)) := by
  obtain ⟨m, rfl⟩ : ∃ m', m = m' + 2 := ⟨m - 2, by omega⟩
  have l1 := putN_len no [3]
  have l2 := putT_len prev (putN' no [3])
  have l3 := putN_len (roots.length : Int) (putT prev (putN' no [3]))
  have l4 := superB_len no prev roots
  have hr : roots.length ≤ sumS roots := by
    have : ∀ l : List ByteArray, l.length ≤ sumS l := fun l => by
      induction l with
      | nil => simp
      | cons x l ih => simp only [sumS, List.map_cons, List.sum_cons, List.length_cons] at ih ⊢; omega
    exact this roots
  simp at l1
  simp only [M_SuperOf, T.rows_l]
  rw [show ([[T.i 3]] : List (List T)) = nr [3] from rfl, M_putNum_ok no [3] (by simp) (by omega)]
  simp only [T.rows_l]
  rw [M_putText_ok prev _ (by omega) (by omega)]
  simp only [T.rows_l, M_putTexts, sr_len]
  rw [M_putNum_ok _ _ (by omega) (by omega)]
  simp only [T.rows_l]
  have := implTexts_loop m (by omega) roots [] (putN' (roots.length : Int) (putT prev (putN' no [3]))) (by omega) (by simp; omega) m (by omega)
  simp only [List.nil_append, List.length_nil] at this
  rw [show (T.i 0 : T) = .i ((0 : Nat) : Int) from rfl, this]
  simp only [T.rows_l, M_Digest]
  rw [dec_t (by rw [nr_len]; unfold superB at l4; omega)]
  rfl
end Go.Proofs.YtdhldbjjdlnbmaaGreat

namespace Go.Proofs.YtdhldbjjdlnbmaaGreat
open Go Go.E Go.Proofs
def Ends (f : (T → T → An) → An) (lo lim : Nat) : Prop := ∃ (k' : Nat) (rows' : List (List T)), lo ≤ k' ∧ k' ≤ lim ∧ ∀ K, f K = K (.i k') (.l rows')
theorem Ends.of {f g : (T → T → An) → An} {lo lim lo' lim' : Nat} (e : ∀ K, f K = g K) (h : Ends g lo lim) (h1 : lo' ≤ lo) (h2 : lim ≤ lim') : Ends f lo' lim' := by
  obtain ⟨k', r, a, b, c⟩ := h
  exact ⟨k', r, Nat.le_trans h1 a, Nat.le_trans b h2, fun K => (e K).trans (c K)⟩
theorem wr1 {k : Nat} (h : k ≤ 4000000) : IntKind.i64.wrap ((k : Int) + 1) = ((k + 1 : Nat) : Int) := by
  rw [wrap_i64 (by omega) (by omega)]; omega
def digs : Nat → Nat → ByteArray → ByteArray
  | 0, _, acc => acc
  | n + 1, k, acc => if k = 0 then acc else digs n (k / 10) (rowsBytes [[(T.i (IntKind.u8.wrap (IntKind.i64.wrap (48 + (Int.tmod (k : Int) 10)))))]] ++ acc)
theorem digs_size : ∀ (n k : Nat) (acc : ByteArray), (digs n k acc).size ≤ acc.size + k
  | 0, k, acc => by simp [digs]
  | n + 1, k, acc => by
    unfold digs
    split
    · omega
    · have := digs_size n (k / 10) (rowsBytes [[(T.i (IntKind.u8.wrap (IntKind.i64.wrap (48 + (Int.tmod (k : Int) 10)))))]] ++ acc)
      rw [ba_app_size] at this
      have e : (rowsBytes [[(T.i (IntKind.u8.wrap (IntKind.i64.wrap (48 + (Int.tmod (k : Int) 10)))))]]).size = 1 := rfl
      omega
theorem text_loop (m : Nat) : ∀ (n k : Nat) (acc : ByteArray), k < n → acc.size + k ≤ 4611686018427387904 → ∀ K, W_markText_L0_0 m n (.i k) (.s acc) K = K (.s (digs n k acc))
  | 0, k, acc, h, hs, K => by omega
  | n + 1, k, acc, h, hs, K => by
    unfold digs
    simp only [W_markText_L0_0, T.int_i, T.str_s]
    by_cases hk : k = 0
    · subst hk
      rw [dec_f (by omega), if_pos rfl]
    · have e : (rowsBytes [[(T.i (IntKind.u8.wrap (IntKind.i64.wrap (48 + (Int.tmod (k : Int) 10)))))]]).size = 1 := rfl
      rw [dec_t (by omega), dec_t (by rw [e]; omega), if_neg hk]
      have e2 : Int.tdiv (k : Int) 10 = ((k / 10 : Nat) : Int) := rfl
      rw [e2, wrap_i64 (by omega) (by omega)]
      exact text_loop m n (k / 10) _ (by omega) (by rw [ba_app_size, e]; omega) K
def mtB (m k : Nat) : ByteArray := (⟨#[109]⟩ : ByteArray) ++ digs (m - 1) k ⟨#[]⟩
theorem markText_ok {m : Nat} (hm : 1048600 ≤ m) {k : Nat} (h0 : 0 < k) (hk : k ≤ 1048590) (K : T → An) : W_markText m (.i k) K = K (.s (mtB m k)) := by
  obtain ⟨m, rfl⟩ : ∃ m', m = m' + 1 := ⟨m - 1, by omega⟩
  have hz := digs_size m k ⟨#[]⟩
  have e0 : (⟨#[]⟩ : ByteArray).size = 0 := rfl
  have e1 : (⟨#[109]⟩ : ByteArray).size = 1 := rfl
  simp only [W_markText, T.int_i]
  rw [dec_f (by omega), text_loop m m k _ (by omega) (by rw [e0]; omega)]
  simp only [T.str_s]
  rw [dec_t (by rw [e1]; omega)]
  rfl
theorem markStringS_loop (m : Nat) (hm : 1048602 ≤ m) : ∀ (post pre : List (List T)) (i : Int) (rows : List (List T)) (k : Nat), i = (pre.length : Int) → rows = pre ++ post → (∀ r ∈ post, WtRow esString r) → 0 < k → k + rowsBulk post ≤ 1048577 → pre.length + post.length ≤ 1048576 →
    ∀ n, post.length < n → Ends (fun K => W_markStringS_L0_0 m n (.i k) (.i i) (.l rows) K) k (k + rowsBulk post)
  | [], pre, i, rows, k, hi, hr, h, hk0, hb, hs, n, hn => by
    obtain ⟨n, rfl⟩ : ∃ m', n = m' + 1 := ⟨n - 1, by omega⟩
    subst hi hr
    refine ⟨k, pre ++ [], by omega, by omega, fun K => ?_⟩
    simp only [W_markStringS_L0_0, T.int_i, T.rows_l]
    rw [dec_f (by simp)]
  | x :: post, pre, i, rows, k, hi, hr, h, hk0, hb, hs, n, hn => by
    obtain ⟨n, rfl⟩ : ∃ m', n = m' + 1 := ⟨n - 1, by omega⟩
    subst hi hr
    simp only [List.length_cons] at hs hn
    have hx := h x (by simp)
    simp only [esString, WtRow, WtT] at hx
    obtain ⟨_, _, rfl, ⟨a0, rfl, -⟩, rfl⟩ := hx
    simp only [rowsBulk, rowBulk, tbulk] at hb ⊢
    have e : ∀ K, W_markStringS_L0_0 m (n + 1) (.i k) (.i pre.length) (.l (pre ++ [.s a0] :: post)) K = W_markStringS_L0_0 m n (.i ((k + 1 : Nat) : Int)) (.i ((pre.length : Int) + 1)) (.l (pre ++ [.s (mtB m (k))] :: post)) K := fun K => by
      simp only [W_markStringS_L0_0, T.int_i, T.rows_l, ix_row, set_row, List.getD_cons_zero, List.getD_cons_succ, List.set_cons_zero, List.set_cons_succ, List.tail_cons, List.headD_cons, ix_nx pre (by omega), wr1 (k := k) (by omega)]
      repeat (first | rw [dec_t (by simp <;> omega)] | (rw [markText_ok (m := m) (k := k) (by omega) (by omega) (by omega)]; try simp only [T.int_i, T.rows_l, ix_row, set_row, List.getD_cons_zero, List.getD_cons_succ, List.set_cons_zero, List.set_cons_succ, List.tail_cons, List.headD_cons, ix_nx pre (by omega), wr1 (k := k) (by omega)]))
    exact Ends.of e (markStringS_loop m hm post (pre ++ [_]) _ _ (k + 1) (len_snoc ..).symm (List.append_cons ..) (fun r hr => h r (by simp [hr])) (by omega) (by omega) (by simp; omega) n (by omega)) (by omega) (by omega)
theorem markStringS_ok {m : Nat} (hm : 1048603 ≤ m) (rows : List (List T)) (h : ∀ r ∈ rows, WtRow esString r) (k : Nat) (hk : 0 < k) (hb : k + rowsBulk rows ≤ 1048577) : Ends (fun K => W_markStringS m (.l rows) (.i k) K) k (k + rowsBulk rows) := by
  obtain ⟨m, rfl⟩ : ∃ m', m = m' + 1 := ⟨m - 1, by omega⟩
  have hl := wtRows_len (by simp) h
  obtain ⟨k', r', h0, h1, h2⟩ := markStringS_loop m (by omega) rows [] 0 rows k rfl rfl h hk hb (by simp; omega) m (by omega)
  refine ⟨k', r', h0, h1, fun K => ?_⟩
  simp only [W_markStringS, T.rows_l]
  refine (h2 _).trans ?_
  rfl
theorem markItemS_loop (m : Nat) (hm : 1048606 ≤ m) : ∀ (post pre : List (List T)) (i : Int) (rows : List (List T)) (k : Nat), i = (pre.length : Int) → rows = pre ++ post → (∀ r ∈ post, WtRow esItem r) → 0 < k → k + rowsBulk post ≤ 1048577 → pre.length + post.length ≤ 1048576 →
    ∀ n, post.length < n → Ends (fun K => W_markItemS_L0_0 m n (.i k) (.i i) (.l rows) K) k (k + rowsBulk post)
  | [], pre, i, rows, k, hi, hr, h, hk0, hb, hs, n, hn => by
    obtain ⟨n, rfl⟩ : ∃ m', n = m' + 1 := ⟨n - 1, by omega⟩
    subst hi hr
    refine ⟨k, pre ++ [], by omega, by omega, fun K => ?_⟩
    simp only [W_markItemS_L0_0, T.int_i, T.rows_l]
    rw [dec_f (by simp)]
  | x :: post, pre, i, rows, k, hi, hr, h, hk0, hb, hs, n, hn => by
    obtain ⟨n, rfl⟩ : ∃ m', n = m' + 1 := ⟨n - 1, by omega⟩
    subst hi hr
    simp only [List.length_cons] at hs hn
    have hx := h x (by simp)
    simp only [esItem, WtRow, WtT] at hx
    obtain ⟨_, _, rfl, ⟨a0, rfl, -⟩, _, _, rfl, ⟨a1, rfl, -⟩, _, _, rfl, ⟨a2, rfl, h2⟩, rfl⟩ := hx
    simp only [rowsBulk, rowBulk, tbulk] at hb ⊢
    obtain ⟨k2, r2, hl2, hk2, e2⟩ := markStringS_ok (m := m) (by omega) a2 h2 (k + 1 + 1) (by omega) (by omega)
    replace e2 : ∀ K, W_markStringS m (.l a2) (.i ((k + 1 + 1 : Nat) : Int)) K = K (.i k2) (.l r2) := e2
    have e : ∀ K, W_markItemS_L0_0 m (n + 1) (.i k) (.i pre.length) (.l (pre ++ [.s a0, .s a1, .l a2] :: post)) K = W_markItemS_L0_0 m n (.i ((k2 : Nat) : Int)) (.i ((pre.length : Int) + 1)) (.l (pre ++ [.s (mtB m (k)), .s (mtB m (k + 1)), .l r2] :: post)) K := fun K => by
      simp only [W_markItemS_L0_0, T.int_i, T.rows_l, ix_row, set_row, List.getD_cons_zero, List.getD_cons_succ, List.set_cons_zero, List.set_cons_succ, List.tail_cons, List.headD_cons, ix_nx pre (by omega), wr1 (k := k) (by omega), wr1 (k := k + 1) (by omega)]
      repeat (first | rw [dec_t (by simp <;> omega)] | (rw [markText_ok (m := m) (k := k) (by omega) (by omega) (by omega)]; try simp only [T.int_i, T.rows_l, ix_row, set_row, List.getD_cons_zero, List.getD_cons_succ, List.set_cons_zero, List.set_cons_succ, List.tail_cons, List.headD_cons, ix_nx pre (by omega), wr1 (k := k) (by omega), wr1 (k := k + 1) (by omega)]) | (rw [markText_ok (m := m) (k := k + 1) (by omega) (by omega) (by omega)]; try simp only [T.int_i, T.rows_l, ix_row, set_row, List.getD_cons_zero, List.getD_cons_succ, List.set_cons_zero, List.set_cons_succ, List.tail_cons, List.headD_cons, ix_nx pre (by omega), wr1 (k := k) (by omega), wr1 (k := k + 1) (by omega)]) | (rw [e2]; try simp only [T.int_i, T.rows_l, ix_row, set_row, List.getD_cons_zero, List.getD_cons_succ, List.set_cons_zero, List.set_cons_succ, List.tail_cons, List.headD_cons, ix_nx pre (by omega), wr1 (k := k) (by omega), wr1 (k := k + 1) (by omega)]))
    exact Ends.of e (markItemS_loop m hm post (pre ++ [_]) _ _ (k2) (len_snoc ..).symm (List.append_cons ..) (fun r hr => h r (by simp [hr])) (by omega) (by omega) (by simp; omega) n (by omega)) (by omega) (by omega)
theorem markItemS_ok {m : Nat} (hm : 1048607 ≤ m) (rows : List (List T)) (h : ∀ r ∈ rows, WtRow esItem r) (k : Nat) (hk : 0 < k) (hb : k + rowsBulk rows ≤ 1048577) : Ends (fun K => W_markItemS m (.l rows) (.i k) K) k (k + rowsBulk rows) := by
  obtain ⟨m, rfl⟩ : ∃ m', m = m' + 1 := ⟨m - 1, by omega⟩
  have hl := wtRows_len (by simp) h
  obtain ⟨k', r', h0, h1, h2⟩ := markItemS_loop m (by omega) rows [] 0 rows k rfl rfl h hk hb (by simp; omega) m (by omega)
  refine ⟨k', r', h0, h1, fun K => ?_⟩
  simp only [W_markItemS, T.rows_l]
  refine (h2 _).trans ?_
  rfl
theorem markProofS_loop (m : Nat) (hm : 1048610 ≤ m) : ∀ (post pre : List (List T)) (i : Int) (rows : List (List T)) (k : Nat), i = (pre.length : Int) → rows = pre ++ post → (∀ r ∈ post, WtRow esProof r) → 0 < k → k + rowsBulk post ≤ 1048577 → pre.length + post.length ≤ 1048576 →
    ∀ n, post.length < n → Ends (fun K => W_markProofS_L0_0 m n (.i k) (.i i) (.l rows) K) k (k + rowsBulk post)
  | [], pre, i, rows, k, hi, hr, h, hk0, hb, hs, n, hn => by
    obtain ⟨n, rfl⟩ : ∃ m', n = m' + 1 := ⟨n - 1, by omega⟩
    subst hi hr
    refine ⟨k, pre ++ [], by omega, by omega, fun K => ?_⟩
    simp only [W_markProofS_L0_0, T.int_i, T.rows_l]
    rw [dec_f (by simp)]
  | x :: post, pre, i, rows, k, hi, hr, h, hk0, hb, hs, n, hn => by
    obtain ⟨n, rfl⟩ : ∃ m', n = m' + 1 := ⟨n - 1, by omega⟩
    subst hi hr
    simp only [List.length_cons] at hs hn
    have hx := h x (by simp)
    simp only [esProof, WtRow, WtT] at hx
    obtain ⟨_, _, rfl, ⟨a0, rfl, -⟩, _, _, rfl, ⟨a1, rfl, -⟩, _, _, rfl, ⟨a2, rfl, h2⟩, rfl⟩ := hx
    simp only [rowsBulk, rowBulk, tbulk] at hb ⊢
    obtain ⟨k2, r2, hl2, hk2, e2⟩ := markItemS_ok (m := m) (by omega) a2 h2 (k + 1 + 1) (by omega) (by omega)
    replace e2 : ∀ K, W_markItemS m (.l a2) (.i ((k + 1 + 1 : Nat) : Int)) K = K (.i k2) (.l r2) := e2
    have e : ∀ K, W_markProofS_L0_0 m (n + 1) (.i k) (.i pre.length) (.l (pre ++ [.i a0, .i a1, .l a2] :: post)) K = W_markProofS_L0_0 m n (.i ((k2 : Nat) : Int)) (.i ((pre.length : Int) + 1)) (.l (pre ++ [.i ((k : Nat) : Int), .i ((k + 1 : Nat) : Int), .l r2] :: post)) K := fun K => by
      simp only [W_markProofS_L0_0, T.int_i, T.rows_l, ix_row, set_row, List.getD_cons_zero, List.getD_cons_succ, List.set_cons_zero, List.set_cons_succ, List.tail_cons, List.headD_cons, ix_nx pre (by omega), wr1 (k := k) (by omega), wr1 (k := k + 1) (by omega)]
      repeat (first | rw [dec_t (by simp <;> omega)] | (rw [e2]; try simp only [T.int_i, T.rows_l, ix_row, set_row, List.getD_cons_zero, List.getD_cons_succ, List.set_cons_zero, List.set_cons_succ, List.tail_cons, List.headD_cons, ix_nx pre (by omega), wr1 (k := k) (by omega), wr1 (k := k + 1) (by omega)]))
    exact Ends.of e (markProofS_loop m hm post (pre ++ [_]) _ _ (k2) (len_snoc ..).symm (List.append_cons ..) (fun r hr => h r (by simp [hr])) (by omega) (by omega) (by simp; omega) n (by omega)) (by omega) (by omega)
theorem markProofS_ok {m : Nat} (hm : 1048611 ≤ m) (rows : List (List T)) (h : ∀ r ∈ rows, WtRow esProof r) (k : Nat) (hk : 0 < k) (hb : k + rowsBulk rows ≤ 1048577) : Ends (fun K => W_markProofS m (.l rows) (.i k) K) k (k + rowsBulk rows) := by
  obtain ⟨m, rfl⟩ : ∃ m', m = m' + 1 := ⟨m - 1, by omega⟩
  have hl := wtRows_len (by simp) h
  obtain ⟨k', r', h0, h1, h2⟩ := markProofS_loop m (by omega) rows [] 0 rows k rfl rfl h hk hb (by simp; omega) m (by omega)
  refine ⟨k', r', h0, h1, fun K => ?_⟩
  simp only [W_markProofS, T.rows_l]
  refine (h2 _).trans ?_
  rfl
end Go.Proofs.YtdhldbjjdlnbmaaGreat

namespace Go.Proofs.YtdhldbjjdlnbmaaGreat
open Go Go.E Go.Proofs
theorem rows_sr : ∀ {rows : List (List T)}, (∀ r ∈ rows, WtRow esString r) → ∃ l, rows = sr l ∧ l.length ≤ rowsBulk rows ∧ sumS l ≤ 6 * rowsBulk rows ∧ rows.length + rowsSz rows ≤ rowsBulk rows
  | [], _ => ⟨[], rfl, by simp, by simp [sumS], by simp [rowsSz]⟩
  | r :: rows, h => by
    obtain ⟨l, rfl, h1, h2, h3⟩ := rows_sr (rows := rows) fun r hr => h r (by simp [hr])
    have hr := h r (by simp)
    simp only [esString, WtRow, WtT] at hr
    obtain ⟨_, _, rfl, ⟨s, rfl, -⟩, rfl⟩ := hr
    refine ⟨s :: l, rfl, ?_, ?_, ?_⟩
    · simp only [rowsBulk, rowBulk, tbulk, List.length_cons]; omega
    · simp only [sumS, List.map_cons, List.sum_cons, rowsBulk, rowBulk, tbulk] at h2 ⊢; omega
    · simp only [rowsSz, rowSz, tsz, rowsBulk, rowBulk, tbulk, List.length_cons] at h3 ⊢; omega
theorem l1In_ok {m : Nat} (hm : 1 ≤ m) (x a b : Int) (k : T → An) : S_l1In m (.i x) (.i a) (.i b) k = k (.b (decide (a ≤ x ∧ x ≤ b))) := by
  obtain ⟨m, rfl⟩ : ∃ m', m = m' + 1 := ⟨m - 1, by omega⟩
  simp only [S_l1In, T.int_i]
  by_cases h : a ≤ x
  · rw [cond_t (by simp [h])]; simp [h]
  · rw [cond_f (by simp; omega)]; simp [h]
theorem inRange_ok {m : Nat} (hm : 1 ≤ m) (x a b : Int) (k : T → An) : M_inRange m (.i x) (.i a) (.i b) k = k (.b (decide (a ≤ x ∧ x ≤ b))) := by
  obtain ⟨m, rfl⟩ : ∃ m', m = m' + 1 := ⟨m - 1, by omega⟩
  simp only [M_inRange, T.int_i]
  by_cases h : a ≤ x
  · rw [cond_t (by simp [h])]; simp [h]
  · rw [cond_f (by simp; omega)]; simp [h]
end Go.Proofs.YtdhldbjjdlnbmaaGreat

namespace Go.Proofs.YtdhldbjjdlnbmaaGreat
open Go Go.E Go.Proofs
def keyE (x1 : T) (r : List T) : Bool := (r.getD 0 dflt).str.toList == x1.str.toList
def keyLe (x1 : T) (r : List T) : Bool := (Op.bytesLess (r.getD 0 dflt).str.toList x1.str.toList) || ((r.getD 0 dflt).str.toList == x1.str.toList)
def fstK (x1 : T) : List (List T) → Option Nat
  | [] => none
  | r :: l => if keyE x1 r then some 0 else (fstK x1 l).map (· + 1)
def cntLe (x1 : T) : List (List T) → Nat
  | [] => 0
  | r :: l => if keyLe x1 r then cntLe x1 l + 1 else 0
theorem cntLe_le (x1 : T) : ∀ l, cntLe x1 l ≤ l.length
  | [] => by simp [cntLe]
  | r :: l => by
    have := cntLe_le x1 l
    unfold cntLe
    split <;> simp <;> omega
def putP (l : List (List T)) (x1 x2 : T) : List (List T) := match fstK x1 l with
  | some j => l.set j ((l.getD j []).set 1 x2)
  | none => l.take (cntLe x1 l) ++ [[x1, x2]] ++ l.drop (cntLe x1 l)
theorem fstK_lt (x1 : T) : ∀ {l : List (List T)} {j : Nat}, fstK x1 l = some j → j < l.length
  | [], j, h => by cases h
  | r :: l, j, h => by
    unfold fstK at h
    split at h
    · cases h; simp
    · cases h2 : fstK x1 l with
      | none => rw [h2] at h; cases h
      | some i =>
        rw [h2] at h
        cases h
        have := fstK_lt x1 h2
        simp; omega
theorem putP_len (l : List (List T)) (x1 x2 : T) : l.length ≤ (putP l x1 x2).length ∧ (putP l x1 x2).length ≤ l.length + 1 := by
  unfold putP
  split
  · simp
  · have := cntLe_le x1 l
    simp; omega
theorem putKey_loop0 (m : Nat) (l x1 x2 : T) : ∀ (post pre : List (List T)), pre.length + post.length ≤ 4611686018427387 → ∀ n, post.length < n → ∀ k0 k1,
    S_PutKey_L0_0 m n l x1 x2 (.i pre.length) (.l (pre ++ post)) k0 k1 =
      match fstK x1 post with
      | some j => k0 (.l ((pre ++ post).set (pre.length + j) (((pre ++ post).getD (pre.length + j) []).set 1 x2)))
      | none => k1 l x1 x2
  | [], pre, hs, n, hn, k0, k1 => by
    obtain ⟨n, rfl⟩ : ∃ m', n = m' + 1 := ⟨n - 1, by omega⟩
    simp only [S_PutKey_L0_0, T.int_i, T.rows_l, fstK]
    rw [dec_f (by simp)]
  | x :: post, pre, hs, n, hn, k0, k1 => by
    obtain ⟨n, rfl⟩ : ∃ m', n = m' + 1 := ⟨n - 1, by omega⟩
    simp only [List.length_cons] at hs hn
    have ih := putKey_loop0 m l x1 x2 post (pre ++ [x]) (by simp; omega) n (by omega) k0 k1
    rw [len_snoc, List.append_assoc, List.singleton_append] at ih
    simp only [S_PutKey_L0_0, T.int_i, T.rows_l, ix_row, ix_nx pre (by omega), fstK]
    rw [dec_t (by simp <;> omega), dec_t (by simp <;> omega), dec_t (by simp)]
    cases hk : keyE x1 x with
    | true =>
      rw [cond_t (show ((x.getD 0 dflt).str.toList == x1.str.toList) = true from hk), dec_t (by simp <;> omega), dec_t (by simp)]
      simp only [if_true, Nat.add_zero]
      rw [show (pre ++ x :: post).getD pre.length [] = x from ix_row pre x post]
      rfl
    | false =>
      rw [cond_f (show ((x.getD 0 dflt).str.toList == x1.str.toList) = false from hk)]
      refine ih.trans ?_
      simp only [Bool.false_eq_true, if_false]
      cases fstK x1 post with
      | none => rfl
      | some j =>
        have e : (pre ++ [x]).length + j = pre.length + (j + 1) := by simp; omega
        simp only [Option.map_some, e]
theorem putKey_loop1 (m : Nat) (x1 x2 : T) : ∀ (post pre : List (List T)), pre.length + post.length ≤ 4611686018427387 → ∀ n, post.length < n → ∀ k0,
    S_PutKey_L1_0 m n (.l (pre ++ post)) x1 x2 (.i pre.length) k0 = k0 (.l (pre ++ post)) x1 x2 (.i ((pre.length + cntLe x1 post : Nat) : Int))
  | [], pre, hs, n, hn, k0 => by
    obtain ⟨n, rfl⟩ : ∃ m', n = m' + 1 := ⟨n - 1, by omega⟩
    simp only [S_PutKey_L1_0, T.int_i, T.rows_l, cntLe]
    rw [cond_f (by simp)]
    rfl
  | x :: post, pre, hs, n, hn, k0 => by
    obtain ⟨n, rfl⟩ : ∃ m', n = m' + 1 := ⟨n - 1, by omega⟩
    simp only [List.length_cons] at hs hn
    have ih := putKey_loop1 m x1 x2 post (pre ++ [x]) (by simp; omega) n (by omega) k0
    rw [len_snoc, List.append_assoc, List.singleton_append] at ih
    simp only [S_PutKey_L1_0, T.int_i, T.rows_l, ix_row, ix_nx pre (by omega), cntLe]
    rw [cond_t (by simp <;> omega), dec_t (by simp <;> omega)]
    cases hk : keyLe x1 x with
    | true =>
      rw [cond_t (show ((Op.bytesLess (x.getD 0 dflt).str.toList x1.str.toList) || ((x.getD 0 dflt).str.toList == x1.str.toList)) = true from hk)]
      refine ih.trans ?_
      have e : (pre ++ [x]).length + cntLe x1 post = pre.length + (cntLe x1 post + 1) := by simp; omega
      rw [if_pos rfl, e]
    | false =>
      rw [cond_f (show ((Op.bytesLess (x.getD 0 dflt).str.toList x1.str.toList) || ((x.getD 0 dflt).str.toList == x1.str.toList)) = false from hk)]
      rfl
theorem specPut_ok {m : Nat} (l : List (List T)) (x1 x2 : T) (hl : l.length ≤ 1048576) (hm : 1048580 ≤ m) (k : T → An) : S_PutKey m (.l l) x1 x2 k k = k (.l (putP l x1 x2)) := by
  obtain ⟨m, rfl⟩ : ∃ m', m = m' + 1 := ⟨m - 1, by omega⟩
  simp only [S_PutKey, T.rows_l]
  rw [dec_t (by unfold maxRow; omega)]
  refine (putKey_loop0 m (.l l) x1 x2 l [] (by simp; omega) m (by omega) _ _).trans ?_
  unfold putP
  cases fstK x1 l with
  | some j => simp
  | none =>
    simp only []
    refine (putKey_loop1 m x1 x2 l [] (by simp; omega) m (by omega) _).trans ?_
    have hc := cntLe_le x1 l
    simp only [T.rows_l, T.int_i, List.nil_append, List.length_nil, Nat.zero_add]
    have e1 : Int.toNat (cntLe x1 l : Int) = cntLe x1 l := rfl
    have e2 : Int.toNat (l.length : Int) = l.length := rfl
    rw [dec_t (by omega), dec_t (by omega), dec_t (by simp [maxRow]; omega), dec_t (by simp [maxRow]; omega), dec_t (by omega), dec_t (by omega), dec_t (by simp [maxRow]; omega)]
    rw [e1, e2, List.take_length]
theorem index_loop (m : Nat) (hm : 1 ≤ m) (x1 : T) (l : List (List T)) : ∀ (post pre : List (List T)), l = pre ++ post → l.length ≤ 4611686018427387 → ∀ n, post.length < n → ∀ k0 k1,
    slIx_L0_0 m n (.l l) (.l [[x1]]) (.i l.length) (.i pre.length) k0 k1 =
      match fstK x1 post with
      | some j => k0 (.i ((pre.length + j : Nat) : Int))
      | none => k1
  | [], pre, he, hs, n, hn, k0, k1 => by
    obtain ⟨n, rfl⟩ : ∃ m', n = m' + 1 := ⟨n - 1, by omega⟩
    subst he
    simp only [slIx_L0_0, T.int_i, T.rows_l, fstK]
    rw [dec_f (by simp)]
  | x :: post, pre, he, hs, n, hn, k0, k1 => by
    obtain ⟨n, rfl⟩ : ∃ m', n = m' + 1 := ⟨n - 1, by omega⟩
    obtain ⟨m, rfl⟩ : ∃ m', m = m' + 1 := ⟨m - 1, by omega⟩
    have ih := index_loop (m + 1) hm x1 l post (pre ++ [x]) (by rw [he]; simp) hs n (by simp at hn; omega) k0 k1
    subst he
    simp only [List.length_append, List.length_cons] at hs hn
    rw [len_snoc] at ih
    simp only [slIx_L0_0, T.int_i, T.rows_l, ix_row, ix_nx pre (by omega), fstK, M_pairAt_1]
    rw [dec_t (by simp <;> omega), dec_t (by simp <;> omega)]
    have e0 : row1 (T.l [[x1]]) = [x1] := rfl
    simp only [e0, T.bool_b]
    cases hk : keyE x1 x with
    | true =>
      have hk' : (((x.getD 0 dflt).str.toList == ((row1 (T.l [[x1]])).getD 0 dflt).str.toList)) = true := hk
      rw [e0] at hk'
      rw [cond_t hk', if_pos rfl]
      rfl
    | false =>
      have hk' : (((x.getD 0 dflt).str.toList == ((row1 (T.l [[x1]])).getD 0 dflt).str.toList)) = false := hk
      rw [e0] at hk'
      rw [cond_f hk']
      refine ih.trans ?_
      simp only [Bool.false_eq_true, if_false]
      cases fstK x1 post with
      | none => rfl
      | some j =>
        have e : (pre ++ [x]).length + j = pre.length + (j + 1) := by simp; omega
        simp only [Option.map_some, e]
theorem implPut_loop (m : Nat) (x1 x2 : T) : ∀ (post pre : List (List T)), pre.length + post.length ≤ 4611686018427387 → ∀ n, post.length < n → ∀ k0,
    M_putKey_L0_0 m n x1 x2 (.i pre.length) (.l (pre ++ post)) k0 = k0 x1 x2 (.i ((pre.length + cntLe x1 post : Nat) : Int)) (.l (pre ++ post))
  | [], pre, hs, n, hn, k0 => by
    obtain ⟨n, rfl⟩ : ∃ m', n = m' + 1 := ⟨n - 1, by omega⟩
    simp only [M_putKey_L0_0, T.int_i, T.rows_l, cntLe]
    rw [cond_f (by simp)]
    rfl
  | x :: post, pre, hs, n, hn, k0 => by
    obtain ⟨n, rfl⟩ : ∃ m', n = m' + 1 := ⟨n - 1, by omega⟩
    simp only [List.length_cons] at hs hn
    have ih := implPut_loop m x1 x2 post (pre ++ [x]) (by simp; omega) n (by omega) k0
    rw [len_snoc, List.append_assoc, List.singleton_append] at ih
    simp only [M_putKey_L0_0, T.int_i, T.rows_l, ix_row, ix_nx pre (by omega), cntLe]
    rw [cond_t (by simp <;> omega), dec_t (by simp <;> omega), dec_t (by simp)]
    cases hk : keyLe x1 x with
    | true =>
      rw [cond_t (show ((Op.bytesLess (x.getD 0 dflt).str.toList x1.str.toList) || ((x.getD 0 dflt).str.toList == x1.str.toList)) = true from hk)]
      refine ih.trans ?_
      have e : (pre ++ [x]).length + cntLe x1 post = pre.length + (cntLe x1 post + 1) := by simp; omega
      rw [if_pos rfl, e]
    | false =>
      rw [cond_f (show ((Op.bytesLess (x.getD 0 dflt).str.toList x1.str.toList) || ((x.getD 0 dflt).str.toList == x1.str.toList)) = false from hk)]
      rfl
theorem implPut_ok {m : Nat} (l : List (List T)) (x1 x2 : T) (hl : l.length ≤ 1048576) (hm : 1048600 ≤ m) (k : T → An) : M_putKey m (.l l) x1 x2 k k = k (.l (putP l x1 x2)) := by
  obtain ⟨m, rfl⟩ : ∃ m', m = m' + 4 := ⟨m - 4, by omega⟩
  simp only [M_putKey, M_pairAt, slIx, T.rows_l]
  have e0 : row1 (T.l [[x1]]) = [x1] := rfl
  rw [e0]
  refine (index_loop (m + 1) (by omega) x1 l l [] rfl (by omega) (m + 1) (by omega) _ _).trans ?_
  unfold putP
  cases hf : fstK x1 l with
  | some j =>
    have hj := fstK_lt x1 hf
    simp only [List.length_nil, Nat.zero_add, T.int_i]
    have e1 : Int.toNat (j : Int) = j := rfl
    rw [dec_t (by omega), dec_t (by omega), dec_t (by omega), e1]
  | none =>
    simp only [T.int_i]
    rw [dec_f (by omega)]
    refine (implPut_loop (m + 3) x1 x2 l [] (by simp; omega) (m + 3) (by omega) _).trans ?_
    have hc := cntLe_le x1 l
    have e1 : Int.toNat (cntLe x1 l : Int) = cntLe x1 l := rfl
    simp only [slIn, T.rows_l, T.int_i, List.nil_append, List.length_nil, Nat.zero_add, e1]
    rw [cond_t (by simp [maxRow]; omega)]
def foldP (a b : List (List T)) : List (List T) := b.foldl (fun acc r => putP acc (r.getD 0 dflt) (r.getD 1 dflt)) a
theorem foldP_cons (a : List (List T)) (x : List T) (b : List (List T)) : foldP a (x :: b) = foldP (putP a (x.getD 0 dflt) (x.getD 1 dflt)) b := rfl
theorem foldP_len : ∀ (b a : List (List T)), (foldP a b).length ≤ a.length + b.length
  | [], a => by simp [foldP]
  | x :: b, a => by
    rw [foldP_cons]
    have := foldP_len b (putP a (x.getD 0 dflt) (x.getD 1 dflt))
    have := (putP_len a (x.getD 0 dflt) (x.getD 1 dflt)).2
    simp only [List.length_cons]; omega
theorem drop1_getD (r : List T) : (r.drop 1).getD 0 dflt = r.getD 1 dflt := by simp [List.getD]
theorem specU_loop (m : Nat) (hm : 1048600 ≤ m) : ∀ (post pre acc : List (List T)), acc.length + post.length ≤ 1048576 → pre.length + post.length ≤ 1048576 → ∀ n, post.length < n → ∀ k0,
    S_UnionOf_L0_0 m n (.l (pre ++ post)) (.i pre.length) (.l acc) k0 = k0 (.l (foldP acc post))
  | [], pre, acc, ha, hs, n, hn, k0 => by
    obtain ⟨n, rfl⟩ : ∃ m', n = m' + 1 := ⟨n - 1, by omega⟩
    simp only [S_UnionOf_L0_0, T.int_i, T.rows_l]
    rw [dec_f (by simp)]
    rfl
  | x :: post, pre, acc, ha, hs, n, hn, k0 => by
    obtain ⟨n, rfl⟩ : ∃ m', n = m' + 1 := ⟨n - 1, by omega⟩
    simp only [List.length_cons] at ha hs hn
    have hp := (putP_len acc (x.getD 0 dflt) (x.getD 1 dflt)).2
    have ih := specU_loop m hm post (pre ++ [x]) (putP acc (x.getD 0 dflt) (x.getD 1 dflt)) (by omega) (by simp; omega) n (by omega) k0
    rw [len_snoc, List.append_assoc, List.singleton_append] at ih
    simp only [S_UnionOf_L0_0, T.int_i, T.rows_l, ix_row, ix_nx pre (by omega), drop1_getD]
    rw [dec_t (by simp <;> omega), dec_t (by simp <;> omega), dec_t (by simp <;> omega)]
    rw [specPut_ok acc _ _ (by omega) (by omega), foldP_cons]
    exact ih
theorem specU_ok {m : Nat} (a b : List (List T)) (hl : a.length + b.length ≤ 1048576) (hm : 1048610 ≤ m) (k : T → An) : S_UnionOf m (.l a) (.l b) k = k (.l (foldP a b)) := by
  obtain ⟨m, rfl⟩ : ∃ m', m = m' + 1 := ⟨m - 1, by omega⟩
  simp only [S_UnionOf, T.rows_l]
  rw [dec_t (by unfold maxRow; omega)]
  exact specU_loop m (by omega) b [] a (by omega) (by simp; omega) m (by omega) _
theorem implU_loop (m : Nat) (hm : 1048600 ≤ m) (l : List (List T)) : ∀ (post pre acc : List (List T)), l = pre ++ post → acc.length + post.length ≤ 1048576 → pre.length + post.length ≤ 1048576 → ∀ n, post.length < n → ∀ k0,
    M_UnionOf_L0_0 m n (.l l) (.i l.length) (.i pre.length) (.l acc) k0 = k0 (.l (foldP acc post))
  | [], pre, acc, he, ha, hs, n, hn, k0 => by
    obtain ⟨n, rfl⟩ : ∃ m', n = m' + 1 := ⟨n - 1, by omega⟩
    subst he
    simp only [M_UnionOf_L0_0, T.int_i, T.rows_l]
    rw [dec_f (by simp)]
    rfl
  | x :: post, pre, acc, he, ha, hs, n, hn, k0 => by
    obtain ⟨n, rfl⟩ : ∃ m', n = m' + 1 := ⟨n - 1, by omega⟩
    simp only [List.length_cons] at ha hs hn
    have hp := (putP_len acc (x.getD 0 dflt) (x.getD 1 dflt)).2
    have ih := implU_loop m hm l post (pre ++ [x]) (putP acc (x.getD 0 dflt) (x.getD 1 dflt)) (by rw [he]; simp) (by omega) (by simp; omega) n (by omega) k0
    subst he
    rw [len_snoc] at ih
    simp only [M_UnionOf_L0_0, T.int_i, T.rows_l, ix_row, ix_nx pre (by omega)]
    rw [dec_t (by simp <;> omega), dec_t (by simp <;> omega)]
    rw [implPut_ok acc _ _ (by omega) (by omega), foldP_cons]
    exact ih
theorem implU_ok {m : Nat} (a b : List (List T)) (hl : a.length + b.length ≤ 1048576) (hm : 1048610 ≤ m) (k : T → An) : M_UnionOf m (.l a) (.l b) k = k (.l (foldP a b)) := by
  obtain ⟨m, rfl⟩ : ∃ m', m = m' + 2 := ⟨m - 2, by omega⟩
  simp only [M_UnionOf, slCl, T.rows_l]
  rw [dec_t (by unfold maxRow; omega)]
  exact implU_loop (m + 1) (by omega) b b [] a rfl (by omega) (by simp; omega) (m + 1) (by omega) _
theorem putP_two {l : List (List T)} {x1 x2 : T} (h : ∀ r ∈ l, r.length = 2) : ∀ r ∈ putP l x1 x2, r.length = 2 := by
  intro r hr
  unfold putP at hr
  split at hr
  · rename_i j hf
    have hj := fstK_lt x1 hf
    rcases List.mem_or_eq_of_mem_set hr with hr | rfl
    · exact h r hr
    · rw [List.length_set]
      exact h _ (by simp [List.getD, List.getElem?_eq_getElem hj])
  · simp only [List.mem_append, List.mem_singleton] at hr
    rcases hr with (hr | rfl) | hr
    · exact h r (List.mem_of_mem_take hr)
    · rfl
    · exact h r (List.mem_of_mem_drop hr)
theorem foldP_two : ∀ (b a : List (List T)), (∀ r ∈ a, r.length = 2) → ∀ r ∈ foldP a b, r.length = 2
  | [], a, h => h
  | x :: b, a, h => by
    rw [foldP_cons]
    exact foldP_two b _ (putP_two h)
theorem eqP_loop (m : Nat) (hm : 1 ≤ m) : ∀ (post pre : List (List T)), pre.length + post.length ≤ 1048576 → ∀ n, post.length < n → ∀ k0 k1, W_eqPairS_L0_0 m n (.l (pre ++ post)) (.l (pre ++ post)) (.i pre.length) k0 k1 = k1
  | [], pre, hs, n, hn, k0, k1 => by
    obtain ⟨n, rfl⟩ : ∃ m', n = m' + 1 := ⟨n - 1, by omega⟩
    simp only [W_eqPairS_L0_0, T.int_i, T.rows_l]
    rw [dec_f (by simp)]
  | x :: post, pre, hs, n, hn, k0, k1 => by
    obtain ⟨n, rfl⟩ : ∃ m', n = m' + 1 := ⟨n - 1, by omega⟩
    obtain ⟨m, rfl⟩ : ∃ m', m = m' + 1 := ⟨m - 1, by omega⟩
    simp only [List.length_cons] at hs hn
    have ih := eqP_loop (m + 1) hm post (pre ++ [x]) (by simp; omega) n (by omega) k0 k1
    rw [len_snoc, List.append_assoc, List.singleton_append] at ih
    simp only [W_eqPairS_L0_0, T.int_i, T.rows_l, ix_row, ix_nx pre (by omega), W_eqPair, beq_toList_self, Bool.not_true, cond_false, T.bool_b]
    rw [dec_t (by simp; omega), dec_t (by simp; omega), dec_t (by simp; omega)]
    exact ih
theorem eqP_ok {m : Nat} (hm : 1048603 ≤ m) (rows : List (List T)) (hs : rows.length ≤ 1048576) (k : T → An) : W_eqPairS m (.l rows) (.l rows) k = k (.b true) := by
  obtain ⟨m, rfl⟩ : ∃ m', m = m' + 1 := ⟨m - 1, by omega⟩
  simp only [W_eqPairS, T.rows_l, T.int_i, bne_self_eq_false, cond_false]
  exact eqP_loop m (by omega) rows [] (by simp; omega) m (by omega) _ _
def mrk (m : Nat) : Nat → Nat → List (List T)
  | _, 0 => []
  | k, n + 1 => [.s (mtB m k), .s (mtB m (k + 1))] :: mrk m (k + 1 + 1) n
theorem mrk_len (m : Nat) : ∀ n k, (mrk m k n).length = n
  | 0, k => rfl
  | n + 1, k => by simp [mrk, mrk_len m n]
theorem markP_loop (m : Nat) (hm : 1048600 ≤ m) : ∀ (post pre : List (List T)) (k : Nat), (∀ r ∈ post, r.length = 2) → 0 < k → k + 2 * post.length ≤ 1048590 → pre.length + post.length ≤ 1048576 → ∀ n, post.length < n → ∀ k0,
    W_markPairS_L0_0 m n (.i k) (.i pre.length) (.l (pre ++ post)) k0 = k0 (.i ((k + 2 * post.length : Nat) : Int)) (.l (pre ++ mrk m k post.length))
  | [], pre, k, h, hk, hb, hs, n, hn, k0 => by
    obtain ⟨n, rfl⟩ : ∃ m', n = m' + 1 := ⟨n - 1, by omega⟩
    simp only [W_markPairS_L0_0, T.int_i, T.rows_l]
    rw [dec_f (by simp)]
    rfl
  | x :: post, pre, k, h, hk, hb, hs, n, hn, k0 => by
    obtain ⟨n, rfl⟩ : ∃ m', n = m' + 1 := ⟨n - 1, by omega⟩
    simp only [List.length_cons] at hb hs hn
    match x, h x (by simp) with
    | [c0, c1], _ =>
    have ih := markP_loop m hm post (pre ++ [[.s (mtB m k), .s (mtB m (k + 1))]]) (k + 1 + 1) (fun r hr => h r (by simp [hr])) (by omega) (by omega) (by simp; omega) n (by omega) k0
    rw [len_snoc, List.append_assoc, List.singleton_append, List.append_assoc, List.singleton_append] at ih
    simp only [W_markPairS_L0_0, T.int_i, T.rows_l, ix_row, set_row, List.set_cons_zero, List.set_cons_succ, ix_nx pre (by omega), wr1 (k := k) (by omega), wr1 (k := k + 1) (by omega)]
    rw [dec_t (by simp; omega), markText_ok (by omega) (by omega) (by omega), dec_t (by simp; omega), dec_t (by simp), markText_ok (by omega) (by omega) (by omega), dec_t (by simp; omega), dec_t (by simp)]
    refine ih.trans ?_
    have e : k + 1 + 1 + 2 * post.length = k + 2 * (post.length + 1) := by omega
    rw [e]
    rfl
theorem markP_ok {m : Nat} (hm : 1048610 ≤ m) (rows : List (List T)) (h : ∀ r ∈ rows, r.length = 2) (hs : 1 + 2 * rows.length ≤ 1048590) (K : T → T → An) :
    W_markPairS m (.l rows) (.i 1) K = K (.i ((1 + 2 * rows.length : Nat) : Int)) (.l (mrk (m - 1) 1 rows.length)) := by
  obtain ⟨m, rfl⟩ : ∃ m', m = m' + 1 := ⟨m - 1, by omega⟩
  simp only [W_markPairS, T.rows_l]
  refine (markP_loop m (by omega) rows [] 1 h (by omega) hs (by simp; omega) m (by omega) _).trans ?_
  rfl
theorem heldP_loop (m : Nat) (hm : 1048600 ≤ m) (l : List (List T)) : ∀ (j : Nat) (pre : List (List T)) (k : Nat), l = pre ++ mrk m k j → 0 < k → k + 2 * j ≤ 1048590 → pre.length + j ≤ 1048576 → ∀ n, j < n → ∀ k0 k1,
    W_heldPairS_L0_0 m n (.l l) (.i k) (.i pre.length) k0 k1 = k1 (.i ((k + 2 * j : Nat) : Int))
  | 0, pre, k, he, hk, hb, hs, n, hn, k0, k1 => by
    obtain ⟨n, rfl⟩ : ∃ m', n = m' + 1 := ⟨n - 1, by omega⟩
    subst he
    simp only [W_heldPairS_L0_0, T.int_i, T.rows_l]
    rw [dec_f (by simp [mrk])]
    rfl
  | j + 1, pre, k, he, hk, hb, hs, n, hn, k0, k1 => by
    obtain ⟨n, rfl⟩ : ∃ m', n = m' + 1 := ⟨n - 1, by omega⟩
    have ih := heldP_loop m hm l j (pre ++ [[.s (mtB m k), .s (mtB m (k + 1))]]) (k + 1 + 1) (by rw [he]; simp [mrk]) (by omega) (by omega) (by simp; omega) n (by omega) k0 k1
    rw [len_snoc] at ih
    subst he
    have hml := mrk_len m j (k + 1 + 1)
    simp only [W_heldPairS_L0_0, T.int_i, T.rows_l, mrk, ix_row, ix_nx pre (by omega), wr1 (k := k) (by omega), wr1 (k := k + 1) (by omega), drop1_getD, List.getD_cons_zero, List.getD_cons_succ, T.str_s]
    rw [dec_t (by simp; omega), dec_t (by simp; omega), markText_ok (by omega) (by omega) (by omega)]
    simp only [T.str_s, beq_toList_self, Bool.not_true, cond_false]
    rw [dec_t (by simp; omega), markText_ok (by omega) (by omega) (by omega)]
    simp only [T.str_s, beq_toList_self, Bool.not_true, cond_false]
    refine ih.trans ?_
    have e : k + 1 + 1 + 2 * j = k + 2 * (j + 1) := by omega
    rw [e]
theorem heldP_ok {m : Nat} (hm : 1048610 ≤ m) (j : Nat) (hs : 1 + 2 * j ≤ 1048590) (K : T → An) :
    W_heldPairS m (.l (mrk (m - 1) 1 j)) (.i 1) K = K (.i ((1 + 2 * j : Nat) : Int)) := by
  obtain ⟨m, rfl⟩ : ∃ m', m = m' + 1 := ⟨m - 1, by omega⟩
  simp only [W_heldPairS, T.rows_l]
  exact heldP_loop m (by omega) _ j [] 1 rfl (by omega) hs (by simp; omega) m (by omega) _ _
end Go.Proofs.YtdhldbjjdlnbmaaGreat

namespace Go.Proofs.YtdhldbjjdlnbmaaGreat
open Go Go.E Go.Proofs
def halfF : Nat → Nat → Nat → Nat
  | 0, _, k => k
  | f + 1, n, k => if 2 * k < n then halfF f n (2 * k) else k
def half (n : Nat) : Nat := halfF 7 n 1
theorem halfF_lt : ∀ (f n k : Nat), k < n → 0 < k → halfF f n k < n ∧ 0 < halfF f n k
  | 0, n, k, h, h0 => ⟨h, h0⟩
  | f + 1, n, k, h, h0 => by
    unfold halfF
    split
    · exact halfF_lt f n (2 * k) (by omega) (by omega)
    · exact ⟨h, h0⟩
theorem half_lt {n : Nat} (h : 2 ≤ n) : half n < n ∧ 0 < half n := halfF_lt 7 n 1 (by omega) (by omega)
theorem pow_up {n k f : Nat} (h : n ≤ 2 * k * 2 ^ (f + 1)) : n ≤ 2 * (2 * k) * 2 ^ f := by
  have e : 2 * k * 2 ^ (f + 1) = 2 * (2 * k) * 2 ^ f := by rw [Nat.pow_succ, Nat.mul_comm (2 ^ f) 2, ← Nat.mul_assoc]; congr 1; omega
  omega
theorem specHalf_loop (m : Nat) : ∀ (f n k : Nat), n ≤ 2 * k * 2 ^ f → n ≤ 1000 → k ≤ 1000 → ∀ N, f < N → ∀ K, S_l4Half_L0_0 m N (.i n) (.i k) K = K (.i (halfF f n k : Nat))
  | f, n, k, h, hn, hk, 0, hN, K => by omega
  | 0, n, k, h, hn, hk, N + 1, hN, K => by
    simp only [S_l4Half_L0_0, T.int_i]
    rw [wrap_i64 (by omega) (by omega), dec_f (by omega)]
    rfl
  | f + 1, n, k, h, hn, hk, N + 1, hN, K => by
    simp only [S_l4Half_L0_0, T.int_i]
    rw [wrap_i64 (by omega) (by omega)]
    unfold halfF
    by_cases h2 : 2 * k < n
    · rw [dec_t (by omega), if_pos h2]
      exact specHalf_loop m f n (2 * k) (pow_up h) hn (by omega) N (by omega) K
    · rw [dec_f (by omega), if_neg h2]
theorem implHalf_loop (m : Nat) : ∀ (f n k : Nat), n ≤ 2 * k * 2 ^ f → n ≤ 1000 → k ≤ 1000 → ∀ N, f < N → ∀ K, M_half_L0_0 m N (.i n) (.i k) K = K (.i (halfF f n k : Nat))
  | f, n, k, h, hn, hk, 0, hN, K => by omega
  | 0, n, k, h, hn, hk, N + 1, hN, K => by
    simp only [M_half_L0_0, T.int_i]
    rw [wrap_i64 (x := 2 * (k : Int)) (by omega) (by omega), dec_f (by omega)]
    rfl
  | f + 1, n, k, h, hn, hk, N + 1, hN, K => by
    simp only [M_half_L0_0, T.int_i]
    rw [wrap_i64 (x := 2 * (k : Int)) (by omega) (by omega), wrap_i64 (x := (k : Int) * 2) (by omega) (by omega)]
    unfold halfF
    by_cases h2 : 2 * k < n
    · rw [dec_t (by omega), if_pos h2, show (k : Int) * 2 = ((2 * k : Nat) : Int) by omega]
      exact implHalf_loop m f n (2 * k) (pow_up h) hn (by omega) N (by omega) K
    · rw [dec_f (by omega), if_neg h2]
theorem specHalf_ok {m : Nat} (hm : 10 ≤ m) {n : Nat} (hn : n ≤ 256) (K : T → An) : S_l4Half m (.i n) K = K (.i (half n : Nat)) := by
  obtain ⟨m, rfl⟩ : ∃ m', m = m' + 1 := ⟨m - 1, by omega⟩
  exact specHalf_loop m 7 n 1 (by omega) (by omega) (by omega) m (by omega) K
theorem implHalf_ok {m : Nat} (hm : 10 ≤ m) {n : Nat} (hn : n ≤ 256) (K : T → An) : M_half m (.i n) K = K (.i (half n : Nat)) := by
  obtain ⟨m, rfl⟩ : ∃ m', m = m' + 1 := ⟨m - 1, by omega⟩
  exact implHalf_loop m 7 n 1 (by omega) (by omega) (by omega) m (by omega) K
def digL (l : List Nat) : ByteArray := digestB (nr l)
def leafN (key val : ByteArray) : List Nat := putT val (putT key [0])
def nodeN (a b : ByteArray) : List Nat := 1 :: (bN a ++ bN b)
def topN (n : Int) (inner : ByteArray) : List Nat := putN' n [2] ++ bN inner
theorem dig_size (l : List Nat) : (digL l).size = 32 := by
  unfold digL
  rw [digB_nr]
  have h8 := blocksN_ok ((padN l).length / 64) h0N (padN l) rfl h0N_W
  have : (digestN l).length = 32 := by
    unfold digestN
    generalize blocksN kN ((padN l).length / 64) h0N (padN l) = z at h8
    obtain ⟨b0, b1, b2, b3, b4, b5, b6, b7, rfl⟩ := l8 h8
    rfl
  simp [ByteArray.size, this]
def way (leaf : List Nat) : List ByteArray → Nat → Nat → Option (List (List Nat))
  | [], i, n => if n = 1 then some [leaf] else none
  | last :: rp, i, n => if n = 1 then none else
    match way leaf rp (if half n ≤ i then i - half n else i) (if half n ≤ i then n - half n else half n) with
    | none => none
    | some ws => some (ws ++ [if half n ≤ i then nodeN last (digL (ws.getLastD [])) else nodeN (digL (ws.getLastD [])) last])
end Go.Proofs.YtdhldbjjdlnbmaaGreat

namespace Go.Proofs.YtdhldbjjdlnbmaaGreat
open Go Go.E Go.Proofs
def By (l : List Nat) : Prop := ∀ x ∈ l, x < 256
theorem leafN_ok (key val : ByteArray) : By (leafN key val) ∧ (leafN key val).length ≤ 20 + key.size + val.size := by
  have h1 := putT_len key [0]
  have h2 := putT_len val (putT key [0])
  refine ⟨putT_bytes _ (putT_bytes _ (by simp)), ?_⟩
  unfold leafN
  simp at h1
  omega
theorem nodeN_ok (a b : ByteArray) : By (nodeN a b) ∧ (nodeN a b).length = 1 + (a.size + b.size) := by
  refine ⟨?_, by simp [nodeN, bN_len]; omega⟩
  intro x hx
  unfold nodeN at hx
  rcases List.mem_cons.1 hx with rfl | hx
  · omega
  · exact all_app (bN_bytes a) (bN_bytes b) x hx
theorem topN_ok (n : Int) (s : ByteArray) : By (topN n s) ∧ (topN n s).length ≤ 10 + s.size := by
  have h1 := putN_len n [2]
  refine ⟨all_app (putN_bytes _ (by simp)) (bN_bytes s), ?_⟩
  unfold topN
  rw [List.length_append, bN_len]
  simp at h1
  omega
theorem By.bytes {l : List Nat} (h : By l) : Bytes l := bytes_all h
theorem specLeaf_ok {m : Nat} (hm : 30 ≤ m) (key val : ByteArray) (h : key.size + val.size ≤ 3000000) (K : T → An) : S_l4Leaf m (.s key) (.s val) K = K (.l (nr (leafN key val))) := by
  obtain ⟨m, rfl⟩ : ∃ m', m = m' + 1 := ⟨m - 1, by omega⟩
  have h1 := putT_len key [0]
  simp at h1
  simp only [S_l4Leaf]
  rw [show ([[T.i 0]] : List (List T)) = nr [0] from rfl, S_PutText_ok key [0] (by simp; omega) (by omega)]
  simp only [T.rows_l]
  rw [S_PutText_ok val _ (by omega) (by omega)]
  rfl
theorem implLeaf_ok {m : Nat} (hm : 30 ≤ m) (key val : ByteArray) (h : key.size + val.size ≤ 3000000) (K : T → An) : M_leafBytes m (.s key) (.s val) K = K (.l (nr (leafN key val))) := by
  obtain ⟨m, rfl⟩ : ∃ m', m = m' + 1 := ⟨m - 1, by omega⟩
  have h1 := putT_len key [0]
  simp at h1
  simp only [M_leafBytes]
  rw [show ([[T.i 0]] : List (List T)) = nr [0] from rfl, M_putText_ok key [0] (by simp; omega) (by omega)]
  simp only [T.rows_l]
  rw [M_putText_ok val _ (by omega) (by omega)]
  rfl
theorem nr_cat (a b : List Nat) : nr a ++ nr b = nr (a ++ b) := by simp [nr]
theorem specNode_ok {m : Nat} (hm : 1 ≤ m) (a b : ByteArray) (h : a.size + b.size ≤ 3000000) (K : T → An) : S_l4Node m (.s a) (.s b) K = K (.l (nr (nodeN a b))) := by
  obtain ⟨m, rfl⟩ : ∃ m', m = m' + 1 := ⟨m - 1, by omega⟩
  simp only [S_l4Node, T.str_s, bytesRows_nr]
  rw [show ([[T.i 1]] : List (List T)) = nr [1] from rfl, nr_cat, nr_cat]
  rw [dec_t (by simp only [nr_len, bN_len]; unfold maxRow; omega), dec_t (by simp only [nr_len, bN_len, List.length_append]; unfold maxRow; simp; omega)]
  rfl
theorem implNode_ok {m : Nat} (hm : 1 ≤ m) (a b : ByteArray) (h : a.size + b.size ≤ 3000000) (K : T → An) : M_nodeBytes m (.s a) (.s b) K = K (.l (nr (nodeN a b))) := by
  obtain ⟨m, rfl⟩ : ∃ m', m = m' + 1 := ⟨m - 1, by omega⟩
  simp only [M_nodeBytes, T.str_s, bytesRows_nr]
  rw [show ([[T.i 1]] : List (List T)) = nr [1] from rfl, nr_cat, nr_cat]
  rw [dec_t (by simp only [nr_len, bN_len]; unfold maxRow; omega), dec_t (by simp only [nr_len, bN_len, List.length_append]; unfold maxRow; simp; omega)]
  rfl
theorem specTop_ok {m : Nat} (hm : 20 ≤ m) (n : Int) (a : ByteArray) (h : a.size ≤ 3000000) (K : T → An) : S_l4Top m (.i n) (.s a) K = K (.l (nr (topN n a))) := by
  obtain ⟨m, rfl⟩ : ∃ m', m = m' + 1 := ⟨m - 1, by omega⟩
  have h1 := putN_len n [2]
  simp at h1
  simp only [S_l4Top]
  rw [show ([[T.i 2]] : List (List T)) = nr [2] from rfl, S_PutNum_ok n [2] (by simp) (by omega)]
  simp only [T.rows_l, T.str_s, bytesRows_nr]
  rw [nr_cat, dec_t (by simp only [nr_len, bN_len]; unfold maxRow; omega)]
  rfl
theorem implTop_ok {m : Nat} (hm : 20 ≤ m) (n : Int) (a : ByteArray) (h : a.size ≤ 3000000) (K : T → An) : M_rootBytes m (.i n) (.s a) K = K (.l (nr (topN n a))) := by
  obtain ⟨m, rfl⟩ : ∃ m', m = m' + 1 := ⟨m - 1, by omega⟩
  have h1 := putN_len n [2]
  simp at h1
  simp only [M_rootBytes]
  rw [show ([[T.i 2]] : List (List T)) = nr [2] from rfl, M_putNum_ok n [2] (by simp) (by omega)]
  simp only [T.rows_l, T.str_s, bytesRows_nr]
  rw [nr_cat, dec_t (by simp only [nr_len, bN_len]; unfold maxRow; omega)]
  rfl
theorem way_ok {leaf : List Nat} (hB : By leaf) (hl : leaf.length ≤ 3000000) : ∀ (rp : List ByteArray) (i n : Nat) (ws : List (List Nat)), (∀ s ∈ rp, s.size ≤ 1048576) → way leaf rp i n = some ws →
    (∃ w0 wl, ws = w0 ++ [wl]) ∧ ws.length ≤ rp.length + 1 ∧ ∀ w ∈ ws, By w ∧ w.length ≤ 3000000
  | [], i, n, ws, hs, h => by
    unfold way at h
    split at h
    · cases h
      exact ⟨⟨[], leaf, rfl⟩, by simp, fun w hw => by rw [List.mem_singleton.1 hw]; exact ⟨hB, hl⟩⟩
    · cases h
  | last :: rp, i, n, ws, hs, h => by
    unfold way at h
    split at h
    · cases h
    · cases hw : way leaf rp (if half n ≤ i then i - half n else i) (if half n ≤ i then n - half n else half n) with
      | none => rw [hw] at h; cases h
      | some vs =>
        rw [hw] at h
        obtain ⟨-, h2, h3⟩ := way_ok hB hl rp _ _ vs (fun s hs' => hs s (by simp [hs'])) hw
        have h4 := hs last (by simp)
        cases h
        refine ⟨⟨vs, _, rfl⟩, by simp; omega, fun w hw => ?_⟩
        rcases List.mem_append.1 hw with hw | hw
        · exact h3 w hw
        · rw [List.mem_singleton.1 hw]
          split
          · have := nodeN_ok last (digL (vs.getLastD []))
            rw [dig_size] at this
            exact ⟨this.1, by omega⟩
          · have := nodeN_ok (digL (vs.getLastD [])) last
            rw [dig_size] at this
            exact ⟨this.1, by omega⟩
def wsS (ws : List (List Nat)) : List (List T) := ws.map fun w => [.s (rowsBytes (nr w))]
def wsR (ws : List (List Nat)) : List (List T) := ws.map fun w => [.l (nr w)]
def HashRes (S : List (List Nat) → List (List T)) (o : Option (List (List Nat))) (l : List (List T)) (b : Bool) : Prop := match o with
  | some ws => l = S ws ∧ b = true
  | none => b = false
theorem wsS_snoc (a : List (List Nat)) (w : List Nat) : wsS (a ++ [w]) = wsS a ++ [[.s (rowsBytes (nr w))]] := by simp [wsS]
theorem wsR_snoc (a : List (List Nat)) (w : List Nat) : wsR (a ++ [w]) = wsR a ++ [[.l (nr w)]] := by simp [wsR]
theorem wsS_len (a : List (List Nat)) : (wsS a).length = a.length := by simp [wsS]
theorem wsR_len (a : List (List Nat)) : (wsR a).length = a.length := by simp [wsR]
theorem rB_nr {w : List Nat} (h : By w) : bN (rowsBytes (nr w)) = w := by
  unfold bN rowsBytes nr
  simp only [List.map_map, List.toList_toArray]
  rw [List.map_congr_left (g := id) fun x hx => ?_, List.map_id]
  have := h x hx
  simp only [Function.comp, List.getD_cons_zero, T.int_i, id]
  show (UInt8.ofNat x).toNat = x
  rw [UInt8.toNat_ofNat']
  omega
theorem rowsBytes_size (w : List Nat) : (rowsBytes (nr w)).size = w.length := by
  rw [ba_size]
  simp [rowsBytes, nr]
theorem lastW (n : Nat) : IntKind.i64.wrap (((n + 1 : Nat) : Int) - 1) = if n ≤ 1000000000 then (n : Int) else IntKind.i64.wrap (((n + 1 : Nat) : Int) - 1) := by
  split
  · rw [wrap_i64 (by omega) (by omega)]; omega
  · rfl
theorem sr_app (a b : List ByteArray) : sr (a ++ b) = sr a ++ sr b := by simp [sr]
theorem specHashed {leaf : List Nat} (hB : By leaf) (hl : leaf.length ≤ 3000000) : ∀ (rp : List ByteArray) (i n m : Nat), 1 ≤ n → n ≤ 60 → i < n → (∀ s ∈ rp, s.size ≤ 1048576) → rp.length ≤ 1048576 → 20000100 + rp.length ≤ m →
    ∃ l b, HashRes wsS (way leaf rp i n) l b ∧ ∀ k, S_l4Hashed m (.l (nr leaf)) (.i i) (.i n) (.l (sr rp.reverse)) k k k k k = k (.l l) (.b b)
  | [], i, n, m, h1, h2, hi, hs, hr, hm => by
    obtain ⟨m, rfl⟩ : ∃ m', m = m' + 1 := ⟨m - 1, by omega⟩
    by_cases hn : n = 1
    · refine ⟨wsS [leaf], true, by simp [way, hn, HashRes], fun k => ?_⟩
      simp only [S_l4Hashed, T.int_i, T.rows_l]
      rw [dec_t (by omega)]
      rfl
    · refine ⟨[], false, by simp [way, hn, HashRes], fun k => ?_⟩
      simp only [S_l4Hashed, T.int_i, T.rows_l]
      rw [dec_f (by omega), cond_t (by rfl)]
  | last :: rp, i, n, m, h1, h2, hi, hs, hr, hm => by
    obtain ⟨m, rfl⟩ : ∃ m', m = m' + 1 := ⟨m - 1, by omega⟩
    simp only [List.length_cons] at hr hm
    have hls := hs last (by simp)
    have hL : (sr (rp.reverse ++ [last])).length = rp.length + 1 := by simp [sr]
    have hg : ((sr (rp.reverse ++ [last])).getD rp.length []).getD 0 dflt = .s last := by
      have := sr_get rp.reverse last []
      rwa [List.length_reverse] at this
    have ht : (sr (rp.reverse ++ [last])).take rp.length = sr rp.reverse := by
      have e : (sr rp.reverse).length = rp.length := by simp [sr]
      rw [sr_app, ← e]
      exact List.take_left
    by_cases hn : n = 1
    · refine ⟨wsS [leaf], false, by simp [way, hn, HashRes], fun k => ?_⟩
      simp only [S_l4Hashed, T.int_i, T.rows_l, List.reverse_cons]
      rw [dec_t (by omega), hL]
      rfl
    · have hh := half_lt (n := n) (by omega)
      have hw1 : IntKind.i64.wrap (((rp.length + 1 : Nat) : Int) - 1) = (rp.length : Int) := by rw [wrap_i64 (by omega) (by omega)]; omega
      obtain ⟨l, b, hR, hk⟩ := specHashed hB hl rp (if half n ≤ i then i - half n else i) (if half n ≤ i then n - half n else half n) m (by split <;> omega) (by split <;> omega) (by split <;> omega) (fun s hs' => hs s (by simp [hs'])) (by omega) (by omega)
      cases hw : way leaf rp (if half n ≤ i then i - half n else i) (if half n ≤ i then n - half n else half n) with
      | none =>
        rw [hw] at hR
        obtain rfl : b = false := hR
        refine ⟨[], false, by simp [way, hn, HashRes, hw], fun k => ?_⟩
        simp only [S_l4Hashed, T.int_i, T.rows_l, List.reverse_cons, hL, hw1, Int.toNat_natCast, hg, ht]
        rw [dec_f (by omega), cond_f (by simp; omega), dec_t (by omega), specHalf_ok (by omega) (by omega)]
        simp only [T.int_i]
        by_cases hge : half n ≤ i
        · rw [if_pos hge, if_pos hge] at hk
          rw [dec_t (by omega), dec_t (by omega), dec_t (by omega), wrap_i64 (by omega) (by omega), wrap_i64 (by omega) (by omega)]
          rw [show (i : Int) - (half n : Nat) = ((i - half n : Nat) : Int) by omega, show (n : Int) - (half n : Nat) = ((n - half n : Nat) : Int) by omega]
          refine (hk _).trans ?_
          rfl
        · rw [if_neg hge, if_neg hge] at hk
          rw [dec_f (by omega), dec_t (by omega), dec_t (by omega)]
          refine (hk _).trans ?_
          rfl
      | some ws =>
        rw [hw] at hR
        obtain ⟨rfl, rfl⟩ := hR
        obtain ⟨⟨w0, wl, rfl⟩, hwl, hwB⟩ := way_ok hB hl rp _ _ ws (fun s hs' => hs s (by simp [hs'])) hw
        have hb := hwB wl (by simp)
        simp only [List.length_append, List.length_cons, List.length_nil] at hwl
        have hgl : (w0 ++ [wl]).getLastD [] = wl := by simp
        have hL2 : (wsS (w0 ++ [wl])).length = w0.length + 1 := by simp [wsS]
        have hw2 : IntKind.i64.wrap (((w0.length + 1 : Nat) : Int) - 1) = (w0.length : Int) := by rw [wrap_i64 (by omega) (by omega)]; omega
        have hg2 : ((wsS (w0 ++ [wl])).getD w0.length []).getD 0 dflt = .s (rowsBytes (nr wl)) := by simp [wsS, List.getD]
        have hd : ∀ K, S_Digest m (.l (bytesRows (rowsBytes (nr wl)))) K = K (.s (digL wl)) := fun K => by
          rw [bytesRows_nr, rB_nr hb.1]
          exact S_Digest_ok wl (by omega) hb.1.bytes (by omega) K
        have hds := dig_size wl
        refine ⟨wsS (w0 ++ [wl] ++ [if half n ≤ i then nodeN last (digL wl) else nodeN (digL wl) last]), true, by simp [way, hn, HashRes, hw, hgl], fun k => ?_⟩
        simp only [S_l4Hashed, T.int_i, T.rows_l, List.reverse_cons, hL, hw1, Int.toNat_natCast, hg, ht]
        rw [dec_f (by omega), cond_f (by simp; omega), dec_t (by omega), specHalf_ok (by omega) (by omega)]
        simp only [T.int_i]
        by_cases hge : half n ≤ i
        · rw [if_pos hge, if_pos hge] at hk
          rw [dec_t (by omega), dec_t (by omega), dec_t (by omega), wrap_i64 (by omega) (by omega), wrap_i64 (by omega) (by omega)]
          rw [show (i : Int) - (half n : Nat) = ((i - half n : Nat) : Int) by omega, show (n : Int) - (half n : Nat) = ((n - half n : Nat) : Int) by omega]
          refine (hk _).trans ?_
          simp only [T.bool_b, Bool.not_true, cond_false, T.rows_l, hL2, hw2, Int.toNat_natCast, hg2, T.str_s, rowsBytes_size, hd]
          rw [dec_t (by omega), dec_t (by omega), dec_t (by unfold maxCells; omega), dec_f (by omega), specNode_ok (by omega) _ _ (by omega)]
          simp only [T.rows_l]
          rw [dec_t (by unfold maxRow; omega), if_pos hge, wsS_snoc (w0 ++ [wl])]
        · rw [if_neg hge, if_neg hge] at hk
          rw [dec_f (by omega), dec_t (by omega), dec_t (by omega)]
          refine (hk _).trans ?_
          simp only [T.bool_b, Bool.not_true, cond_false, T.rows_l, hL2, hw2, Int.toNat_natCast, hg2, T.str_s, rowsBytes_size, hd]
          rw [dec_t (by omega), dec_t (by omega), dec_t (by unfold maxCells; omega), dec_t (by omega), specNode_ok (by omega) _ _ (by omega)]
          simp only [T.rows_l]
          rw [dec_t (by unfold maxRow; omega), if_neg hge, wsS_snoc (w0 ++ [wl])]
end Go.Proofs.YtdhldbjjdlnbmaaGreat

namespace Go.Proofs.YtdhldbjjdlnbmaaGreat
open Go Go.E Go.Proofs
theorem digP {m : Nat} (hm : 1 ≤ m) (l : List Nat) (hl : l.length ≤ 1073741824) (K : T → An) : M_Digest m (.l (nr l)) K = K (.s (digL l)) := by
  obtain ⟨m, rfl⟩ : ∃ m', m = m' + 1 := ⟨m - 1, by omega⟩
  simp only [M_Digest, T.rows_l, nr_len]
  rw [dec_t hl]
  rfl
theorem implClimb (key val : ByteArray) (hkv : key.size + val.size ≤ 2500000) : ∀ (rp : List ByteArray) (i n m : Nat), 1 ≤ n → n ≤ 60 → i < n → (∀ s ∈ rp, s.size ≤ 1048576) → rp.length ≤ 1048576 → 100 + rp.length ≤ m →
    ∃ l b, HashRes wsR (way (leafN key val) rp i n) l b ∧ ∀ k, M_climb m (.s key) (.s val) (.i i) (.i n) (.l (sr rp.reverse)) k k k k = k (.l l) (.b b)
  | [], i, n, m, h1, h2, hi, hs, hr, hm => by
    obtain ⟨m, rfl⟩ : ∃ m', m = m' + 1 := ⟨m - 1, by omega⟩
    by_cases hn : n = 1
    · refine ⟨wsR [leafN key val], true, by simp [way, hn, HashRes], fun k => ?_⟩
      simp only [M_climb, T.int_i, T.rows_l]
      rw [cond_t (by simp [hn]), implLeaf_ok (by omega) _ _ (by omega)]
      rfl
    · refine ⟨[], false, by simp [way, hn, HashRes], fun k => ?_⟩
      simp only [M_climb, T.int_i, T.rows_l]
      rw [cond_f (by simp; omega), dec_t (by decide)]
  | last :: rp, i, n, m, h1, h2, hi, hs, hr, hm => by
    obtain ⟨m, rfl⟩ : ∃ m', m = m' + 1 := ⟨m - 1, by omega⟩
    have hLN := leafN_ok key val
    simp only [List.length_cons] at hr hm
    have hls := hs last (by simp)
    have hL : (sr (rp.reverse ++ [last])).length = rp.length + 1 := by simp [sr]
    have hg : ((sr (rp.reverse ++ [last])).getD rp.length []).getD 0 dflt = .s last := by
      have := sr_get rp.reverse last []
      rwa [List.length_reverse] at this
    have ht : (sr (rp.reverse ++ [last])).take rp.length = sr rp.reverse := by
      have e : (sr rp.reverse).length = rp.length := by simp [sr]
      rw [sr_app, ← e]
      exact List.take_left
    by_cases hn : n = 1
    · refine ⟨wsR [leafN key val], false, by simp [way, hn, HashRes], fun k => ?_⟩
      simp only [M_climb, T.int_i, T.rows_l, List.reverse_cons]
      rw [cond_t (by simp [hn]), implLeaf_ok (by omega) _ _ (by omega), hL]
      rfl
    · have hh := half_lt (n := n) (by omega)
      have hw1 : IntKind.i64.wrap (((rp.length + 1 : Nat) : Int) - 1) = (rp.length : Int) := by rw [wrap_i64 (by omega) (by omega)]; omega
      obtain ⟨l, b, hR, hk⟩ := implClimb key val hkv rp (if half n ≤ i then i - half n else i) (if half n ≤ i then n - half n else half n) m (by split <;> omega) (by split <;> omega) (by split <;> omega) (fun s hs' => hs s (by simp [hs'])) (by omega) (by omega)
      cases hw : way (leafN key val) rp (if half n ≤ i then i - half n else i) (if half n ≤ i then n - half n else half n) with
      | none =>
        rw [hw] at hR
        obtain rfl : b = false := hR
        refine ⟨[], false, by simp [way, hn, HashRes, hw], fun k => ?_⟩
        simp only [M_climb, T.int_i, T.rows_l, List.reverse_cons, hL, hw1, Int.toNat_natCast, hg, ht]
        rw [cond_f (by simp; omega), dec_f (by omega), implHalf_ok (by omega) (by omega)]
        simp only [T.int_i]
        by_cases hge : half n ≤ i
        · rw [if_pos hge, if_pos hge] at hk
          rw [dec_t (by omega), dec_t (by omega), dec_t (by omega), wrap_i64 (by omega) (by omega), wrap_i64 (by omega) (by omega)]
          rw [show (i : Int) - (half n : Nat) = ((i - half n : Nat) : Int) by omega, show (n : Int) - (half n : Nat) = ((n - half n : Nat) : Int) by omega]
          refine (hk _).trans ?_
          rfl
        · rw [if_neg hge, if_neg hge] at hk
          rw [dec_f (by omega), dec_t (by omega), dec_t (by omega)]
          refine (hk _).trans ?_
          rfl
      | some ws =>
        rw [hw] at hR
        obtain ⟨rfl, rfl⟩ := hR
        obtain ⟨⟨w0, wl, rfl⟩, hwl, hwB⟩ := way_ok hLN.1 (by omega) rp _ _ ws (fun s hs' => hs s (by simp [hs'])) hw
        have hb := hwB wl (by simp)
        simp only [List.length_append, List.length_cons, List.length_nil] at hwl
        have hgl : (w0 ++ [wl]).getLastD [] = wl := by simp
        have hL2 : (wsR (w0 ++ [wl])).length = w0.length + 1 := by simp [wsR]
        have hw2 : IntKind.i64.wrap (((w0.length + 1 : Nat) : Int) - 1) = (w0.length : Int) := by rw [wrap_i64 (by omega) (by omega)]; omega
        have hg2 : ((wsR (w0 ++ [wl])).getD w0.length []).getD 0 dflt = .l (nr wl) := by simp [wsR, List.getD]
        have hd : ∀ K, M_Digest m (.l (nr wl)) K = K (.s (digL wl)) := fun K => digP (by omega) wl (by omega) K
        have hds := dig_size wl
        refine ⟨wsR (w0 ++ [wl] ++ [if half n ≤ i then nodeN last (digL wl) else nodeN (digL wl) last]), true, by simp [way, hn, HashRes, hw, hgl], fun k => ?_⟩
        simp only [M_climb, T.int_i, T.rows_l, List.reverse_cons, hL, hw1, Int.toNat_natCast, hg, ht]
        rw [cond_f (by simp; omega), dec_f (by omega), implHalf_ok (by omega) (by omega)]
        simp only [T.int_i]
        by_cases hge : half n ≤ i
        · rw [if_pos hge, if_pos hge] at hk
          rw [dec_t (by omega), dec_t (by omega), dec_t (by omega), wrap_i64 (by omega) (by omega), wrap_i64 (by omega) (by omega)]
          rw [show (i : Int) - (half n : Nat) = ((i - half n : Nat) : Int) by omega, show (n : Int) - (half n : Nat) = ((n - half n : Nat) : Int) by omega]
          refine (hk _).trans ?_
          simp only [T.bool_b, Bool.not_true, cond_false, T.rows_l, hL2, hw2, Int.toNat_natCast, hg2, hd]
          rw [dec_t (by omega), dec_t (by omega), dec_t (by omega), dec_t (by omega), implNode_ok (by omega) _ _ (by omega)]
          simp only [T.rows_l]
          rw [dec_t (by unfold maxRow; omega), if_pos hge, wsR_snoc (w0 ++ [wl])]
        · rw [if_neg hge, if_neg hge] at hk
          rw [dec_f (by omega), dec_t (by omega), dec_t (by omega)]
          refine (hk _).trans ?_
          simp only [T.bool_b, Bool.not_true, cond_false, T.rows_l, hL2, hw2, Int.toNat_natCast, hg2, hd]
          rw [dec_t (by omega), dec_t (by omega), dec_f (by omega), dec_t (by omega), implNode_ok (by omega) _ _ (by omega)]
          simp only [T.rows_l]
          rw [dec_t (by unfold maxRow; omega), if_neg hge, wsR_snoc (w0 ++ [wl])]
def pathB (leaf : List Nat) (p : List ByteArray) (i n : Nat) (root : ByteArray) : Bool := match way leaf p.reverse i n with
  | none => false
  | some ws => (digL (topN n (digL (ws.getLastD [])))).toList == root.toList
def chkB (key val : ByteArray) (i n : Int) (p : List ByteArray) (root : ByteArray) : Bool :=
  decide (1 ≤ n ∧ n ≤ 60) && (decide (0 ≤ i ∧ i ≤ n - 1) && pathB (leafN key val) p i.toNat n.toNat root)
theorem specPath_ok {m : Nat} (key val root : ByteArray) (p : List ByteArray) (i n : Int) (hkv : key.size + val.size ≤ 2500000) (hs : ∀ s ∈ p, s.size ≤ 1048576) (hp : p.length ≤ 1048576) (hm : 21100000 + 1048576 ≤ m) (k : T → An) :
    S_CheckPath m (.s key) (.s val) (.i i) (.i n) (.l (sr p)) (.s root) k = k (.b (chkB key val i n p root)) := by
  obtain ⟨m, rfl⟩ : ∃ m', m = m' + 2 := ⟨m - 2, by omega⟩
  unfold chkB
  simp only [S_CheckPath]
  rw [l1In_ok (by omega)]
  by_cases h1 : 1 ≤ n ∧ n ≤ 60
  · rw [decide_eq_true h1]
    simp only [T.bool_b, Bool.not_true, beq_self_eq_true, cond_true, Bool.true_and, T.int_i]
    rw [wrap_i64 (by omega) (by omega), l1In_ok (by omega)]
    by_cases h2 : 0 ≤ i ∧ i ≤ n - 1
    · rw [decide_eq_true h2]
      have hLN := leafN_ok key val
      simp only [T.bool_b, Bool.not_true, cond_false, Bool.true_and]
      rw [specLeaf_ok (by omega) _ _ (by omega)]
      simp only [T.rows_l, S_l4All]
      obtain ⟨i, rfl⟩ : ∃ j : Nat, i = j := ⟨i.toNat, by omega⟩
      obtain ⟨n, rfl⟩ : ∃ j : Nat, n = j := ⟨n.toNat, by omega⟩
      obtain ⟨l, b, hR, hk⟩ := specHashed (leaf := leafN key val) hLN.1 (by omega) p.reverse i n m (by omega) (by omega) (by omega) (fun s h => hs s (by simpa using h)) (by simpa using hp) (by simp; omega)
      rw [List.reverse_reverse] at hk
      refine (hk _).trans ?_
      simp only [Int.toNat_natCast]
      unfold pathB
      cases hw : way (leafN key val) p.reverse i n with
      | none =>
        rw [hw] at hR
        obtain rfl : b = false := hR
        rfl
      | some ws =>
        rw [hw] at hR
        obtain ⟨rfl, rfl⟩ := hR
        obtain ⟨⟨w0, wl, rfl⟩, hwl, hwB⟩ := way_ok hLN.1 (by omega) p.reverse _ _ ws (fun s h => hs s (by simpa using h)) hw
        have hb := hwB wl (by simp)
        simp only [List.length_append, List.length_cons, List.length_nil, List.length_reverse] at hwl
        have hgl : (w0 ++ [wl]).getLastD [] = wl := by simp
        have hL2 : (wsS (w0 ++ [wl])).length = w0.length + 1 := by simp [wsS]
        have hw2 : IntKind.i64.wrap (((w0.length + 1 : Nat) : Int) - 1) = (w0.length : Int) := by rw [wrap_i64 (by omega) (by omega)]; omega
        have hg2 : ((wsS (w0 ++ [wl])).getD w0.length []).getD 0 dflt = .s (rowsBytes (nr wl)) := by simp [wsS, List.getD]
        have hd : ∀ M, 20000000 ≤ M → ∀ K, S_Digest M (.l (bytesRows (rowsBytes (nr wl)))) K = K (.s (digL wl)) := fun M hM K => by
          rw [bytesRows_nr, rB_nr hb.1]
          exact S_Digest_ok wl (by omega) hb.1.bytes hM K
        have hds := dig_size wl
        have hT := topN_ok (n : Int) (digL wl)
        simp only [T.bool_b, Bool.not_true, cond_false, T.rows_l, hL2, hw2, Int.toNat_natCast, hg2, T.str_s, rowsBytes_size]
        rw [dec_t (by omega), dec_t (by omega), dec_t (by unfold maxCells; omega), hd _ (by omega), specTop_ok (by omega) _ _ (by omega)]
        simp only [T.rows_l]
        rw [dec_t (by unfold maxRow; omega)]
        have e1 : ((wsS (w0 ++ [wl]) ++ [[T.s (rowsBytes (nr (topN n (digL wl))))]]).length) = w0.length + 1 + 1 := by simp [wsS]
        have e2 : IntKind.i64.wrap (((w0.length + 1 + 1 : Nat) : Int) - 1) = ((w0.length + 1 : Nat) : Int) := by rw [wrap_i64 (by omega) (by omega)]; omega
        have e3 : ((wsS (w0 ++ [wl]) ++ [[T.s (rowsBytes (nr (topN n (digL wl))))]]).getD (w0.length + 1) []).getD 0 dflt = .s (rowsBytes (nr (topN n (digL wl)))) := by simp [wsS, List.getD]
        simp only [T.bool_b, beq_self_eq_true, cond_true, T.rows_l, e1, e2, Int.toNat_natCast, e3, T.str_s, rowsBytes_size]
        rw [dec_t (by omega), dec_t (by omega), dec_t (by unfold maxCells; omega), bytesRows_nr, rB_nr hT.1, S_Digest_ok _ (by omega) hT.1.bytes (by omega), hgl]
        rfl
    · rw [decide_eq_false h2]
      rfl
  · rw [decide_eq_false h1]
    rfl
theorem implPath_ok {m : Nat} (key val root : ByteArray) (p : List ByteArray) (i n : Int) (hkv : key.size + val.size ≤ 2500000) (hs : ∀ s ∈ p, s.size ≤ 1048576) (hp : p.length ≤ 1048576) (hm : 2000000 ≤ m) (k : T → An) :
    M_CheckPath m (.s key) (.s val) (.i i) (.i n) (.l (sr p)) (.s root) k = k (.b (chkB key val i n p root)) := by
  obtain ⟨m, rfl⟩ : ∃ m', m = m' + 2 := ⟨m - 2, by omega⟩
  unfold chkB
  simp only [M_CheckPath, M_isPlace]
  rw [inRange_ok (by omega)]
  by_cases h1 : 1 ≤ n ∧ n ≤ 60
  · rw [decide_eq_true h1]
    simp only [T.bool_b, beq_self_eq_true, cond_true, Bool.true_and, T.int_i]
    rw [wrap_i64 (by omega) (by omega), inRange_ok (by omega)]
    by_cases h2 : 0 ≤ i ∧ i ≤ n - 1
    · rw [decide_eq_true h2]
      have hLN := leafN_ok key val
      simp only [T.bool_b, Bool.not_true, cond_false, Bool.true_and, T.rows_l, M_wayTo]
      obtain ⟨i, rfl⟩ : ∃ j : Nat, i = j := ⟨i.toNat, by omega⟩
      obtain ⟨n, rfl⟩ : ∃ j : Nat, n = j := ⟨n.toNat, by omega⟩
      obtain ⟨l, b, hR, hk⟩ := implClimb key val hkv p.reverse i n m (by omega) (by omega) (by omega) (fun s h => hs s (by simpa using h)) (by simpa using hp) (by simp; omega)
      rw [List.reverse_reverse] at hk
      refine (hk _).trans ?_
      simp only [Int.toNat_natCast]
      unfold pathB
      cases hw : way (leafN key val) p.reverse i n with
      | none =>
        rw [hw] at hR
        obtain rfl : b = false := hR
        rfl
      | some ws =>
        rw [hw] at hR
        obtain ⟨rfl, rfl⟩ := hR
        obtain ⟨⟨w0, wl, rfl⟩, hwl, hwB⟩ := way_ok hLN.1 (by omega) p.reverse _ _ ws (fun s h => hs s (by simpa using h)) hw
        have hb := hwB wl (by simp)
        simp only [List.length_append, List.length_cons, List.length_nil, List.length_reverse] at hwl
        have hgl : (w0 ++ [wl]).getLastD [] = wl := by simp
        have hL2 : (wsR (w0 ++ [wl])).length = w0.length + 1 := by simp [wsR]
        have hw2 : IntKind.i64.wrap (((w0.length + 1 : Nat) : Int) - 1) = (w0.length : Int) := by rw [wrap_i64 (by omega) (by omega)]; omega
        have hg2 : ((wsR (w0 ++ [wl])).getD w0.length []).getD 0 dflt = .l (nr wl) := by simp [wsR, List.getD]
        have hds := dig_size wl
        have hT := topN_ok (n : Int) (digL wl)
        simp only [T.bool_b, Bool.not_true, cond_false, T.rows_l, hL2, hw2, Int.toNat_natCast, hg2]
        rw [dec_t (by omega), dec_t (by omega), digP (by omega) wl (by omega), implTop_ok (by omega) _ _ (by omega)]
        simp only [T.rows_l]
        rw [dec_t (by unfold maxRow; omega)]
        have e1 : ((wsR (w0 ++ [wl]) ++ [[T.l (nr (topN n (digL wl)))]]).length) = w0.length + 1 + 1 := by simp [wsR]
        have e2 : IntKind.i64.wrap (((w0.length + 1 + 1 : Nat) : Int) - 1) = ((w0.length + 1 : Nat) : Int) := by rw [wrap_i64 (by omega) (by omega)]; omega
        have e3 : ((wsR (w0 ++ [wl]) ++ [[T.l (nr (topN n (digL wl)))]]).getD (w0.length + 1) []).getD 0 dflt = .l (nr (topN n (digL wl))) := by simp [wsR, List.getD]
        simp only [T.bool_b, beq_self_eq_true, cond_true, T.rows_l, e1, e2, Int.toNat_natCast, e3]
        rw [dec_t (by omega), dec_t (by omega), digP (by omega) _ (by omega), hgl]
        rfl
    · rw [decide_eq_false h2]
      rfl
  · rw [decide_eq_false h1]
    rfl
end Go.Proofs.YtdhldbjjdlnbmaaGreat

namespace Go.Proofs.YtdhldbjjdlnbmaaGreat
open Go Go.E Go.Proofs
def isKeyB (b : UInt8) : Bool := (decide (97 ≤ b.toNat) && decide (b.toNat ≤ 122)) || (decide (48 ≤ b.toNat) && decide (b.toNat ≤ 57))
def plain (s : ByteArray) : Bool := s.data.toList.all isKeyB
def keyOkP (s : ByteArray) : Bool := plain s && decide (1 ≤ s.size ∧ s.size ≤ 12)
theorem ix_byte (pre : List UInt8) (x : UInt8) (post : List UInt8) : (pre ++ x :: post).getD (Int.toNat (pre.length : Int)) 0 = x := by simp [List.getD]
theorem l1In2 {m : Nat} (hm : 1 ≤ m) (x a b : Int) (k : T → An) : S_l1In m (.i x) (.i a) (.i b) k = k (.b (decide (a ≤ x) && decide (x ≤ b))) := by
  rw [l1In_ok hm, Bool.decide_and]
theorem inRange2 {m : Nat} (hm : 1 ≤ m) (x a b : Int) (k : T → An) : M_inRange m (.i x) (.i a) (.i b) k = k (.b (decide (a ≤ x) && decide (x ≤ b))) := by
  rw [inRange_ok hm, Bool.decide_and]
theorem isKeyByte_ok {m : Nat} (hm : 1 ≤ m) (b : UInt8) (k : T → An) : M_isKeyByte m (.i (b.toNat : Int)) k = k (.b (isKeyB b)) := by
  obtain ⟨m, rfl⟩ : ∃ m', m = m' + 1 := ⟨m - 1, by omega⟩
  have e1 : decide ((b.toNat : Int) ≥ 97) = decide (97 ≤ b.toNat) := decide_eq_decide.2 (by omega)
  have e2 : decide ((b.toNat : Int) ≤ 122) = decide (b.toNat ≤ 122) := decide_eq_decide.2 (by omega)
  have e3 : decide ((b.toNat : Int) ≥ 48) = decide (48 ≤ b.toNat) := decide_eq_decide.2 (by omega)
  have e4 : decide ((b.toNat : Int) ≤ 57) = decide (b.toNat ≤ 57) := decide_eq_decide.2 (by omega)
  simp only [M_isKeyByte, T.int_i, e1, e2, e3, e4, isKeyB]
  cases decide (97 ≤ b.toNat) <;> cases decide (b.toNat ≤ 122) <;> cases decide (48 ≤ b.toNat) <;> rfl
theorem isWord_loop (m : Nat) (hm : 1 ≤ m) (s : ByteArray) (hs : s.size ≤ 4611686018427387904) : ∀ (post pre : List UInt8), s.data.toList = pre ++ post →
    ∀ n, post.length < n → ∀ k0 k1, M_isWord_L0_0 m n (.s s) (.i pre.length) k0 k1 = cond (post.all isKeyB) k1 (k0 (.b false))
  | [], pre, e, n, hn, k0, k1 => by
    obtain ⟨n, rfl⟩ : ∃ m', n = m' + 1 := ⟨n - 1, by omega⟩
    have hz := ba_size s
    rw [e] at hz
    simp only [M_isWord_L0_0, T.int_i, T.str_s]
    rw [dec_f (by simp at hz; omega)]
    rfl
  | x :: post, pre, e, n, hn, k0, k1 => by
    obtain ⟨n, rfl⟩ : ∃ m', n = m' + 1 := ⟨n - 1, by omega⟩
    have hz := ba_size s
    rw [e] at hz
    simp only [List.length_append, List.length_cons] at hz hn
    simp only [M_isWord_L0_0, T.int_i, T.str_s, e, ix_byte, ix_next pre x (by omega)]
    rw [dec_t (by omega), dec_t (by omega), isKeyByte_ok hm]
    have ih := isWord_loop m hm s hs post (pre ++ [x]) (by rw [e]; simp) n (by omega) k0 k1
    cases hx : isKeyB x with
    | true => simpa [hx] using ih
    | false => simp [hx]
theorem isWord_ok {m : Nat} (s : ByteArray) (hs : s.size ≤ 1048576) (hm : 1048580 ≤ m) (k : T → An) : M_isWord m (.s s) k = k (.b (plain s)) := by
  obtain ⟨m, rfl⟩ : ∃ m', m = m' + 1 := ⟨m - 1, by omega⟩
  have hz := ba_size s
  refine (isWord_loop m (by omega) s (by omega) s.data.toList [] rfl m (by omega) (fun y => k y) (k (.b true))).trans ?_
  unfold plain
  cases s.data.toList.all isKeyB <;> rfl
theorem byteIn {m : Nat} (hm : 1 ≤ m) (x : UInt8) (a b : Int) (k : T → An) : S_l1In m (.i (IntKind.i64.wrap (x.toNat : Int))) (.i a) (.i b) k = k (.b (decide (a ≤ x.toNat) && decide ((x.toNat : Int) ≤ b))) := by
  have hx := x.toNat_lt
  rw [wrap_i64 (by omega) (by omega), l1In2 hm]
theorem keyOk_loop (m : Nat) (hm : 1 ≤ m) (s : ByteArray) (hs : s.size ≤ 4611686018427387904) : ∀ (post pre : List UInt8), s.data.toList = pre ++ post →
    ∀ n, post.length < n → ∀ k0 k1, S_KeyOk_L0_0 m n (.s s) (.i pre.length) k0 k1 = cond (post.all isKeyB) (k1 (.s s)) (k0 (.b false))
  | [], pre, e, n, hn, k0, k1 => by
    obtain ⟨n, rfl⟩ : ∃ m', n = m' + 1 := ⟨n - 1, by omega⟩
    have hz := ba_size s
    rw [e] at hz
    simp only [S_KeyOk_L0_0, T.int_i, T.str_s]
    rw [dec_f (by simp at hz; omega)]
    rfl
  | x :: post, pre, e, n, hn, k0, k1 => by
    obtain ⟨n, rfl⟩ : ∃ m', n = m' + 1 := ⟨n - 1, by omega⟩
    have hz := ba_size s
    rw [e] at hz
    simp only [List.length_append, List.length_cons] at hz hn
    simp only [S_KeyOk_L0_0, T.int_i, T.str_s, e, ix_byte, ix_next pre x (by omega)]
    rw [dec_t (by omega), dec_t (by omega), byteIn hm, byteIn hm, dec_t (by omega)]
    have ih := keyOk_loop m hm s hs post (pre ++ [x]) (by rw [e]; simp) n (by omega) k0 k1
    have e1 : decide ((97 : Int) ≤ x.toNat) = decide (97 ≤ x.toNat) := decide_eq_decide.2 (by omega)
    have e2 : decide ((x.toNat : Int) ≤ 122) = decide (x.toNat ≤ 122) := decide_eq_decide.2 (by omega)
    have e3 : decide ((48 : Int) ≤ x.toNat) = decide (48 ≤ x.toNat) := decide_eq_decide.2 (by omega)
    have e4 : decide ((x.toNat : Int) ≤ 57) = decide (x.toNat ≤ 57) := decide_eq_decide.2 (by omega)
    simp only [e1, e2, e3, e4, List.all_cons, isKeyB, T.bool_b, ih]
    cases (decide (97 ≤ x.toNat) && decide (x.toNat ≤ 122)) <;> cases (decide (48 ≤ x.toNat) && decide (x.toNat ≤ 57)) <;> rfl
theorem dec_nat12 (n : Nat) : (decide ((1 : Int) ≤ n) && decide ((n : Int) ≤ 12)) = decide (1 ≤ n ∧ n ≤ 12) := by
  rw [Bool.decide_and]
  congr 1 <;> exact decide_eq_decide.2 (by omega)
theorem specKeyOk_ok {m : Nat} (s : ByteArray) (hs : s.size ≤ 1048576) (hm : 1048580 ≤ m) (k : T → An) : S_KeyOk m (.s s) k = k (.b (keyOkP s)) := by
  obtain ⟨m, rfl⟩ : ∃ m', m = m' + 1 := ⟨m - 1, by omega⟩
  have hz := ba_size s
  refine (keyOk_loop m (by omega) s (by omega) s.data.toList [] rfl m (by omega) _ _).trans ?_
  simp only [T.str_s, keyOkP, plain]
  rw [l1In2 (by omega), dec_nat12]
  cases s.data.toList.all isKeyB <;> rfl
theorem implKeyOk_ok {m : Nat} (s : ByteArray) (hs : s.size ≤ 1048576) (hm : 1048581 ≤ m) (k : T → An) : M_KeyOk m (.s s) k = k (.b (keyOkP s)) := by
  obtain ⟨m, rfl⟩ : ∃ m', m = m' + 1 := ⟨m - 1, by omega⟩
  simp only [M_KeyOk, T.str_s, keyOkP]
  rw [inRange2 (by omega), dec_nat12, isWord_ok s hs (by omega)]
  cases decide (1 ≤ s.size ∧ s.size ≤ 12) <;> cases plain s <;> rfl
def blt (a b : ByteArray) : Bool := Op.bytesLess a.toList b.toList
theorem bl_tri : ∀ a b : List UInt8, (Op.bytesLess a b || a == b) = !Op.bytesLess b a
  | [], [] => rfl
  | [], y :: b => rfl
  | x :: a, [] => rfl
  | x :: a, y :: b => by
    have ih := bl_tri a b
    simp only [Op.bytesLess, List.cons_beq_cons]
    rcases Nat.lt_trichotomy x.toNat y.toNat with h | h | h
    · have h1 : x < y := UInt8.lt_iff_toNat_lt.2 h
      have h2 : ¬ y < x := fun h' => by have := UInt8.lt_iff_toNat_lt.1 h'; omega
      have h3 : (x == y) = false := by simp; intro e; subst e; omega
      have h4 : (y == x) = false := by simp; intro e; subst e; omega
      simp [h1, h2, h3, h4]
    · obtain rfl : x = y := UInt8.toNat_inj.1 h
      have h2 : ¬ x < x := fun h' => by have := UInt8.lt_iff_toNat_lt.1 h'; omega
      simp only [h2, decide_false, Bool.false_or, beq_self_eq_true, Bool.true_and, ih]
    · have h1 : ¬ x < y := fun h' => by have := UInt8.lt_iff_toNat_lt.1 h'; omega
      have h2 : y < x := UInt8.lt_iff_toNat_lt.2 h
      have h3 : (x == y) = false := by simp; intro e; subst e; omega
      simp [h1, h2, h3]
def pairOkP (key val : ByteArray) : Bool := keyOkP key && decide (val.size ≤ 20)
theorem specPairOk {m : Nat} (key val : ByteArray) (hs : key.size ≤ 1048576) (hm : 1048590 ≤ m) (k : T → An) : S_PairOk m (.s key) (.s val) k = k (.b (pairOkP key val)) := by
  obtain ⟨m, rfl⟩ : ∃ m', m = m' + 1 := ⟨m - 1, by omega⟩
  simp only [S_PairOk, T.str_s]
  rw [specKeyOk_ok key hs (by omega)]
  unfold pairOkP
  have e : decide ((val.size : Int) ≤ 20) = decide (val.size ≤ 20) := decide_eq_decide.2 (by omega)
  rw [e]
  cases keyOkP key <;> rfl
theorem implPairOk {m : Nat} (key val : ByteArray) (hs : key.size ≤ 1048576) (hm : 1048590 ≤ m) (k : T → An) : M_PairOk m (.s key) (.s val) k = k (.b (pairOkP key val)) := by
  obtain ⟨m, rfl⟩ : ∃ m', m = m' + 1 := ⟨m - 1, by omega⟩
  simp only [M_PairOk, T.str_s]
  rw [implKeyOk_ok key hs (by omega)]
  unfold pairOkP
  have e : decide ((val.size : Int) ≤ 20) = decide (val.size ≤ 20) := decide_eq_decide.2 (by omega)
  rw [e]
  cases keyOkP key <;> rfl
structure It where
  key : ByteArray
  val : ByteArray
  path : List ByteArray
def rIt (x : It) : List T := [.s x.key, .s x.val, .l (sr x.path)]
def its (l : List It) : List (List T) := l.map rIt
def It.ok (x : It) : Prop := x.key.size + x.val.size ≤ 1048576 ∧ (∀ s ∈ x.path, s.size ≤ 1048576) ∧ x.path.length ≤ 1048576
theorem its_len (l : List It) : (its l).length = l.length := by simp [its]
theorem its_get (pre : List It) (x : It) (post : List It) : (its (pre ++ x :: post)).getD (Int.toNat (pre.length : Int)) [] = rIt x := by simp [its, List.getD]
def prevK (pre : List It) (x : It) : Bool := match pre.getLast? with
  | none => true
  | some y => blt y.key x.key
theorem prevAt (pre : List It) (x : It) (post : List It) (h : 0 < pre.length) : ∃ y, pre.getLast? = some y ∧ ((its (pre ++ x :: post)).getD (pre.length - 1) []).getD 0 dflt = .s y.key := by
  obtain ⟨p, y, rfl⟩ : ∃ p y, pre = p ++ [y] := ⟨pre.dropLast, pre.getLast (by intro e; subst e; simp at h), (List.dropLast_concat_getLast _).symm⟩
  refine ⟨y, by simp, ?_⟩
  simp [its, List.getD, rIt]
def itB (root : ByteArray) (N F : Int) (pre : List It) (x : It) : Bool := pairOkP x.key x.val && (chkB x.key x.val (F + pre.length) N x.path root && prevK pre x)
def itOk (root : ByteArray) (N F : Int) : List It → List It → Bool
  | _, [] => true
  | pre, x :: post => itB root N F pre x && itOk root N F (pre ++ [x]) post
theorem l5Item_ok {m : Nat} (hm : 22200000 ≤ m) (root : ByteArray) (N F : Int) (hF : 0 ≤ F ∧ F ≤ 100) (pre : List It) (x : It) (post : List It) (hx : x.ok) (hl : pre.length ≤ 1048576) (k : T → An) :
    S_l5Item m (.s root) (.i N) (.i F) (.l (its (pre ++ x :: post))) (.i pre.length) k = k (.b (itB root N F pre x)) := by
  obtain ⟨m, rfl⟩ : ∃ m', m = m' + 1 := ⟨m - 1, by omega⟩
  obtain ⟨h1, h2, h3⟩ := hx
  unfold itB
  simp only [S_l5Item, T.int_i, T.rows_l, its_get, its_len]
  rw [dec_t (by simp; omega)]
  simp only [rIt, List.getD_cons_zero, List.getD_cons_succ, T.rows_l, T.str_s]
  rw [specPairOk _ _ (by omega) (by omega)]
  cases pairOkP x.key x.val with
  | false => rfl
  | true =>
    simp only [T.bool_b, Bool.not_true, beq_self_eq_true, cond_true, Bool.true_and]
    rw [wrap_i64 (by omega) (by omega), specPath_ok _ _ _ _ _ _ (by omega) h2 h3 (by omega)]
    cases chkB x.key x.val (F + pre.length) N x.path root with
    | false => rfl
    | true =>
      simp only [T.bool_b, Bool.not_true, cond_false, Bool.true_and]
      by_cases hp : pre.length = 0
      · obtain rfl : pre = [] := List.eq_nil_of_length_eq_zero hp
        rfl
      · obtain ⟨y, hy, hg⟩ := prevAt pre x post (by omega)
        have e1 : IntKind.i64.wrap ((pre.length : Int) - 1) = ((pre.length - 1 : Nat) : Int) := by rw [wrap_i64 (by omega) (by omega)]; omega
        rw [cond_t (by rw [beq_eq_false_iff_ne.2 (show (pre.length : Int) ≠ 0 by omega)]; rfl), e1, dec_t (by simp; omega)]
        simp only [Int.toNat_natCast, hg, T.str_s]
        unfold prevK
        rw [hy]
        rfl
theorem implItems_loop (m : Nat) (hm : 2100000 ≤ m) (root : ByteArray) (N F : Int) (hF : 0 ≤ F ∧ F ≤ 100) (l : List It) : ∀ (post pre : List It), l = pre ++ post → (∀ x ∈ post, x.ok) → pre.length + post.length ≤ 1048576 → ∀ n, post.length < n → ∀ k0 k1,
    M_itemsOk_L0_0 m n (.s root) (.i 0) (.l (its l)) (.i l.length) (.i pre.length) (.i N) (.i F) (.l (its l)) k0 k1 = cond (itOk root N F pre post) k1 (k0 (.b false))
  | [], pre, he, hx, hs, n, hn, k0, k1 => by
    obtain ⟨n, rfl⟩ : ∃ m', n = m' + 1 := ⟨n - 1, by omega⟩
    subst he
    simp only [M_itemsOk_L0_0, T.int_i, T.rows_l]
    rw [dec_f (by simp)]
    rfl
  | x :: post, pre, he, hx, hs, n, hn, k0, k1 => by
    obtain ⟨n, rfl⟩ : ∃ m', n = m' + 1 := ⟨n - 1, by omega⟩
    have ih := implItems_loop m hm root N F hF l post (pre ++ [x]) (by rw [he]; simp) (fun y hy => hx y (by simp [hy])) (by simp at hs ⊢; omega) n (by simp at hn; omega) k0 k1
    obtain ⟨h1, h2, h3⟩ := hx x (by simp)
    subst he
    simp only [List.length_cons] at hs hn
    rw [len_snoc] at ih
    simp only [M_itemsOk_L0_0, T.int_i, T.rows_l, its_get, its_len, ix_nx pre (by omega)]
    rw [dec_t (by simp <;> omega), dec_t (by simp <;> omega)]
    simp only [rIt, List.getD_cons_zero, List.getD_cons_succ, T.rows_l, T.str_s]
    rw [implPairOk _ _ (by omega) (by omega)]
    unfold itOk itB
    cases pairOkP x.key x.val with
    | false => rfl
    | true =>
      simp only [T.bool_b, Bool.not_true, beq_self_eq_true, cond_true, Bool.true_and]
      rw [wrap_i64 (x := F + (pre.length : Int)) (by omega) (by omega), implPath_ok _ _ _ _ _ _ (by omega) h2 h3 (by omega)]
      by_cases hp : pre.length = 0
      · obtain rfl : pre = [] := List.eq_nil_of_length_eq_zero hp
        rw [cond_f (by rfl)]
        cases chkB x.key x.val (F + (([] : List It).length : Int)) N x.path root with
        | false => rfl
        | true =>
          simp only [T.bool_b, Bool.not_true, cond_false, Bool.true_and]
          exact ih
      · obtain ⟨y, hy, hg⟩ := prevAt pre x post (by omega)
        have e1 : IntKind.i64.wrap ((pre.length : Int) - 1) = ((pre.length - 1 : Nat) : Int) := by rw [wrap_i64 (by omega) (by omega)]; omega
        rw [cond_t (by rw [decide_eq_true (show (pre.length : Int) > 0 by omega)]; rfl), e1, dec_t (by simp; omega)]
        simp only [Int.toNat_natCast, hg, T.str_s]
        rw [bl_tri]
        have hpk : prevK pre x = Op.bytesLess y.key.toList x.key.toList := by unfold prevK; rw [hy]; rfl
        rw [hpk]
        cases Op.bytesLess y.key.toList x.key.toList with
        | false =>
          rw [Bool.and_false, Bool.false_and]
          rfl
        | true =>
          simp only [Bool.not_true, beq_self_eq_true, cond_true, Bool.and_true]
          cases chkB x.key x.val (F + (pre.length : Int)) N x.path root with
          | false => rfl
          | true =>
            simp only [T.bool_b, Bool.not_true, cond_false, Bool.true_and]
            exact ih
end Go.Proofs.YtdhldbjjdlnbmaaGreat

namespace Go.Proofs.YtdhldbjjdlnbmaaGreat
open Go Go.E Go.Proofs
def emp : ByteArray := ⟨#[]⟩
def inB (key lo hi : ByteArray) : Bool := cond (Op.bytesLess key.toList lo.toList) false (cond (hi.toList == emp.toList) true (Op.bytesLess key.toList hi.toList))
theorem specIn_ok {m : Nat} (hm : 1 ≤ m) (key lo hi : ByteArray) (k : T → An) : S_l3In m (.s key) (.s lo) (.s hi) k = k (.b (inB key lo hi)) := by
  obtain ⟨m, rfl⟩ : ∃ m', m = m' + 1 := ⟨m - 1, by omega⟩
  simp only [S_l3In, T.str_s]
  unfold inB
  rw [show (⟨#[]⟩ : ByteArray) = emp from rfl]
  cases Op.bytesLess key.toList lo.toList <;> cases hi.toList == emp.toList <;> rfl
theorem implIn_ok {m : Nat} (hm : 1 ≤ m) (key lo hi : ByteArray) (k : T → An) : M_isBetween m (.s key) (.s lo) (.s hi) k = k (.b (inB key lo hi)) := by
  obtain ⟨m, rfl⟩ : ∃ m', m = m' + 1 := ⟨m - 1, by omega⟩
  simp only [M_isBetween, T.str_s]
  unfold inB
  rw [show (⟨#[]⟩ : ByteArray) = emp from rfl]
  cases Op.bytesLess key.toList lo.toList <;> cases hi.toList == emp.toList <;> rfl
def kv (x : It) : List T := [.s x.key, .s x.val]
def selP (lo hi : ByteArray) : List It → List (List T)
  | [] => []
  | x :: l => cond (inB x.key lo hi) (kv x :: selP lo hi l) (selP lo hi l)
theorem selP_len (lo hi : ByteArray) : ∀ l, (selP lo hi l).length ≤ l.length
  | [] => by simp [selP]
  | x :: l => by
    have := selP_len lo hi l
    unfold selP
    cases inB x.key lo hi <;> simp <;> omega
theorem itOk_len (root : ByteArray) (N F : Int) : ∀ (post pre : List It), itOk root N F pre post = true → post ≠ [] → F + ((pre.length : Nat) : Int) + ((post.length : Nat) : Int) ≤ N
  | [], pre, h, hne => absurd rfl hne
  | x :: post, pre, h, hne => by
    simp only [itOk, itB, chkB, Bool.and_eq_true, decide_eq_true_eq] at h
    obtain ⟨⟨h1, ⟨h2, h3, h4⟩, h5⟩, h6⟩ := h
    by_cases hp : post = []
    · subst hp
      simp
      omega
    · have := itOk_len root N F post (pre ++ [x]) h6 hp
      simp at this ⊢
      omega
theorem specBt_loop (m : Nat) (hm : 22300000 ≤ m) (root lo hi : ByteArray) (N F : Int) (hF : 0 ≤ F ∧ F ≤ 100) (l : List It) : ∀ (post pre : List It) (acc : List (List T)), l = pre ++ post → (∀ x ∈ post, x.ok) → pre.length + post.length ≤ 1048576 → acc.length + post.length ≤ 1048576 → ∀ n, post.length < n → ∀ k0 k1,
    S_CheckBetween_L0_0 m n (.s root) (.s lo) (.s hi) (.i 0) (.i l.length) (.i pre.length) (.i N) (.i F) (.l (its l)) (.l []) (.l acc) k0 k1 =
      cond (itOk root N F pre post) (k1 (.s lo) (.s hi) (.i 0) (.i l.length) (.i N) (.i F) (.l (its l)) (.l []) (.l (acc ++ selP lo hi post))) (k0 (.b false) (.l []))
  | [], pre, acc, he, hx, hs, hc, n, hn, k0, k1 => by
    obtain ⟨n, rfl⟩ : ∃ m', n = m' + 1 := ⟨n - 1, by omega⟩
    subst he
    simp only [S_CheckBetween_L0_0, T.int_i, T.rows_l]
    rw [dec_f (by simp)]
    simp [itOk, selP]
  | x :: post, pre, acc, he, hx, hs, hc, n, hn, k0, k1 => by
    obtain ⟨n, rfl⟩ : ∃ m', n = m' + 1 := ⟨n - 1, by omega⟩
    have ih := fun acc hc => specBt_loop m hm root lo hi N F hF l post (pre ++ [x]) acc (by rw [he]; simp) (fun y hy => hx y (by simp [hy])) (by simp at hs ⊢; omega) hc n (by simp at hn; omega) k0 k1
    have hxo := hx x (by simp)
    subst he
    simp only [List.length_cons] at hs hn hc
    rw [len_snoc] at ih
    simp only [S_CheckBetween_L0_0, T.int_i, T.rows_l, ix_nx pre (by omega), its_get, its_len]
    rw [dec_t (by simp <;> omega), l5Item_ok (by omega) root N F hF pre x post hxo (by omega)]
    unfold itOk selP
    cases itB root N F pre x with
    | false => rfl
    | true =>
      simp only [T.bool_b, Bool.not_true, cond_false, Bool.true_and]
      rw [dec_t (by simp <;> omega)]
      simp only [rIt, List.getD_cons_zero, List.getD_cons_succ]
      rw [specIn_ok (by omega)]
      cases inB x.key lo hi with
      | true =>
        simp only [T.bool_b, cond_true]
        rw [dec_t (by simp <;> omega), dec_t (by unfold maxRow; omega)]
        refine (ih (acc ++ [kv x]) (by simp; omega)).trans ?_
        rw [List.append_assoc]
        rfl
      | false =>
        simp only [T.bool_b, cond_false]
        exact ih acc (by omega)
theorem implCo_loop (m : Nat) (lo hi : T) (l : List It) : ∀ (post pre : List It) (acc : List (List T)), l = pre ++ post → pre.length + post.length ≤ 1048576 → acc.length + post.length ≤ 1048576 → ∀ n, post.length < n → ∀ k0,
    M_CheckBetween_L0_0 m n lo hi (.l (its l)) (.i l.length) (.i pre.length) (.l acc) k0 = k0 lo hi (.l (acc ++ post.map kv))
  | [], pre, acc, he, hs, hc, n, hn, k0 => by
    obtain ⟨n, rfl⟩ : ∃ m', n = m' + 1 := ⟨n - 1, by omega⟩
    subst he
    simp only [M_CheckBetween_L0_0, T.int_i, T.rows_l]
    rw [dec_f (by simp)]
    simp
  | x :: post, pre, acc, he, hs, hc, n, hn, k0 => by
    obtain ⟨n, rfl⟩ : ∃ m', n = m' + 1 := ⟨n - 1, by omega⟩
    have ih := fun acc hc => implCo_loop m lo hi l post (pre ++ [x]) acc (by rw [he]; simp) (by simp at hs ⊢; omega) hc n (by simp at hn; omega) k0
    subst he
    simp only [List.length_cons] at hs hn hc
    rw [len_snoc] at ih
    simp only [M_CheckBetween_L0_0, T.int_i, T.rows_l, ix_nx pre (by omega), its_get, its_len]
    rw [dec_t (by simp <;> omega), dec_t (by simp <;> omega), dec_t (by unfold maxRow; omega)]
    refine (ih (acc ++ [kv x]) (by simp; omega)).trans ?_
    rw [List.append_assoc]
    rfl
theorem kv_get (pre : List It) (x : It) (post : List It) : ((pre ++ x :: post).map kv).getD (Int.toNat (pre.length : Int)) [] = kv x := by simp [List.getD]
theorem implBt_loop (m : Nat) (hm : 1 ≤ m) (lo hi : ByteArray) (l : List It) : ∀ (post pre : List It) (acc : List (List T)), l = pre ++ post → pre.length + post.length ≤ 1048576 → acc.length + post.length ≤ 1048576 → ∀ n, post.length < n → ∀ k0,
    M_Between_L0_0 m n (.s lo) (.s hi) (.l (l.map kv)) (.i l.length) (.i pre.length) (.l acc) k0 = k0 (.l (acc ++ selP lo hi post))
  | [], pre, acc, he, hs, hc, n, hn, k0 => by
    obtain ⟨n, rfl⟩ : ∃ m', n = m' + 1 := ⟨n - 1, by omega⟩
    subst he
    simp only [M_Between_L0_0, T.int_i, T.rows_l]
    rw [dec_f (by simp)]
    simp [selP]
  | x :: post, pre, acc, he, hs, hc, n, hn, k0 => by
    obtain ⟨n, rfl⟩ : ∃ m', n = m' + 1 := ⟨n - 1, by omega⟩
    have ih := fun acc hc => implBt_loop m hm lo hi l post (pre ++ [x]) acc (by rw [he]; simp) (by simp at hs ⊢; omega) hc n (by simp at hn; omega) k0
    subst he
    simp only [List.length_cons] at hs hn hc
    rw [len_snoc] at ih
    simp only [M_Between_L0_0, T.int_i, T.rows_l, ix_nx pre (by omega), kv_get, List.length_map]
    rw [dec_t (by simp <;> omega), dec_t (by simp <;> omega)]
    simp only [kv, List.getD_cons_zero, List.getD_cons_succ]
    rw [implIn_ok hm]
    unfold selP
    cases inB x.key lo hi with
    | true =>
      simp only [T.bool_b, cond_true]
      rw [dec_t (by unfold maxRow; omega)]
      refine (ih (acc ++ [kv x]) (by simp; omega)).trans ?_
      rw [List.append_assoc]
      rfl
    | false =>
      simp only [T.bool_b, cond_false]
      exact ih acc (by omega)
theorem implBetween_ok {m : Nat} (hm : 1048590 ≤ m) (lo hi : ByteArray) (l : List It) (hl : l.length ≤ 1048576) (k : T → An) : M_Between m (.l (l.map kv)) (.s lo) (.s hi) k = k (.l (selP lo hi l)) := by
  obtain ⟨m, rfl⟩ : ∃ m', m = m' + 1 := ⟨m - 1, by omega⟩
  simp only [M_Between, T.rows_l, List.length_map]
  exact implBt_loop m (by omega) lo hi l l [] [] rfl (by simpa using hl) (by simpa using hl) m (by omega) _
def rootE : ByteArray := digL (topN 0 (digL []))
theorem specRootE {m : Nat} (hm : 20000100 ≤ m) (k : T → An) : S_l4Root m (.l []) k = k (.s rootE) := by
  obtain ⟨m, rfl⟩ : ∃ m', m = m' + 2 := ⟨m - 2, by omega⟩
  have h1 := dig_size []
  have hT := topN_ok 0 (digL [])
  simp only [S_l4Root, S_l4Inner, T.rows_l, List.length_nil]
  rw [cond_t (by rfl), show (T.l [] : T) = .l (nr []) from rfl, S_Digest_ok [] (by simp) (bytes_all (by simp)) (by omega), show digestB (nr []) = digL [] from rfl]
  rw [show (((0 : Nat) : Int)) = 0 from rfl, specTop_ok (by omega) _ _ (by omega)]
  simp only [T.rows_l]
  rw [S_Digest_ok _ (by omega) hT.1.bytes (by omega)]
  rfl
theorem implRootE {m : Nat} (hm : 100 ≤ m) (k : T → An) : M_rootOf m (.l []) k = k (.s rootE) := by
  obtain ⟨m, rfl⟩ : ∃ m', m = m' + 4 := ⟨m - 4, by omega⟩
  have h1 := dig_size []
  have hT := topN_ok 0 (digL [])
  simp only [M_rootOf, M_innerOf, M_Digest_nil, T.rows_l, List.length_nil]
  rw [show (((0 : Nat) : Int)) = 0 from rfl]
  rw [cond_t (by rfl), cond_t (by rfl), show digestB [] = digL [] from rfl]
  rw [implTop_ok (by omega) _ _ (by omega)]
  simp only [T.rows_l]
  rw [digP (by omega) _ (by omega)]
  rfl
def rejB (fk lk lo hi : ByteArray) (N F : Int) (len : Nat) : Bool := (!Op.bytesLess fk.toList lo.toList && decide (F > 0)) || ((hi.toList == emp.toList || Op.bytesLess lk.toList hi.toList) && decide (F + (len : Int) < N))
def firstK (l : List It) : ByteArray := match l with | [] => emp | x :: _ => x.key
def lastK (l : List It) : ByteArray := match l.getLast? with | none => emp | some x => x.key
def btw (root lo hi : ByteArray) (N F : Int) (l : List It) : Option (List (List T)) :=
  if N = 0 then (if l.length = 0 ∧ F = 0 ∧ (root.toList == rootE.toList) = true then some [] else none)
  else if 1 ≤ N ∧ N ≤ 60 ∧ l.length ≠ 0 ∧ 0 ≤ F ∧ F ≤ N - 1 ∧ itOk root N F [] l = true ∧ rejB (firstK l) (lastK l) lo hi N F l.length = false then some (selP lo hi l) else none
def BtRes (o : Option (List (List T))) (k : T → T → An) : An := match o with
  | some rows => k (.l rows) (.b true)
  | none => k (.l []) (.b false)
theorem first_get {l : List It} (h : 0 < l.length) : ((its l).getD 0 []).getD 0 dflt = .s (firstK l) := by
  match l, h with
  | x :: l, _ => rfl
theorem last_get {l : List It} (h : 0 < l.length) : ((its l).getD (l.length - 1) []).getD 0 dflt = .s (lastK l) := by
  obtain ⟨p, y, rfl⟩ : ∃ p y, l = p ++ [y] := ⟨l.dropLast, l.getLast (by intro e; subst e; simp at h), (List.dropLast_concat_getLast _).symm⟩
  simp [its, List.getD, rIt, lastK]
end Go.Proofs.YtdhldbjjdlnbmaaGreat

namespace Go.Proofs.YtdhldbjjdlnbmaaGreat
open Go Go.E Go.Proofs
theorem specBetween_ok {m : Nat} (hm : 22400000 ≤ m) (root lo hi : ByteArray) (N F : Int) (l : List It) (hx : ∀ x ∈ l, x.ok) (hl : l.length ≤ 1048576) (K : T → T → An) :
    S_CheckBetween m (.s root) (.s lo) (.s hi) (.i N) (.i F) (.l (its l)) K K K K = BtRes (btw root lo hi N F l) K := by
  obtain ⟨m, rfl⟩ : ∃ m', m = m' + 1 := ⟨m - 1, by omega⟩
  simp only [S_CheckBetween, T.int_i, T.rows_l, its_len, T.str_s]
  by_cases hN : N = 0
  · subst hN
    rw [cond_t (by rfl)]
    by_cases h1 : l.length = 0
    · rw [cond_t (by rw [h1]; rfl)]
      by_cases h2 : F = 0
      · subst h2
        rw [cond_t (by rfl), specRootE (by omega)]
        simp only [T.str_s]
        cases hr : root.toList == rootE.toList <;> simp [btw, h1, hr, BtRes]
      · rw [cond_f (by simp [h2])]
        simp [btw, h2, BtRes]
    · rw [cond_f (by rw [beq_eq_false_iff_ne.2 (show (l.length : Int) ≠ 0 by omega)]; rfl)]
      simp [btw, h1, BtRes]
  · rw [cond_f (by simp [hN]), l1In_ok (by omega)]
    by_cases h1 : 1 ≤ N ∧ N ≤ 60
    · rw [decide_eq_true h1]
      simp only [T.bool_b, Bool.not_true, beq_self_eq_true, cond_true]
      by_cases h2 : l.length = 0
      · rw [cond_f (by rw [h2]; rfl)]
        simp [btw, hN, h2, BtRes]
      · rw [cond_t (by rw [beq_eq_false_iff_ne.2 (show (l.length : Int) ≠ 0 by omega)]; rfl), wrap_i64 (x := N - 1) (by omega) (by omega), l1In_ok (by omega)]
        by_cases h3 : 0 ≤ F ∧ F ≤ N - 1
        · rw [decide_eq_true h3]
          simp only [T.bool_b, Bool.not_true, cond_false]
          refine (specBt_loop m (by omega) root lo hi N F (by omega) l l [] [] rfl hx (by simpa using hl) (by simpa using hl) m (by omega) _ _).trans ?_
          cases hit : itOk root N F [] l with
          | false =>
            simp [btw, hN, hit, BtRes]
          | true =>
            have hle := itOk_len root N F l [] hit (by intro e; subst e; simp at h2)
            simp only [List.length_nil] at hle
            have e1 : IntKind.i64.wrap ((l.length : Int) - 1) = ((l.length - 1 : Nat) : Int) := by rw [wrap_i64 (by omega) (by omega)]; omega
            have e2 : IntKind.i64.wrap (F + (l.length : Int)) = F + (l.length : Int) := wrap_i64 (by omega) (by omega)
            simp only [cond_true, T.int_i, T.rows_l, its_len, List.nil_append, e1, e2, Int.toNat_natCast, first_get (l := l) (by omega), last_get (l := l) (by omega), T.str_s]
            rw [dec_t (by omega), dec_t (by omega), show (⟨#[]⟩ : ByteArray) = emp from rfl]
            have hb : btw root lo hi N F l = if rejB (firstK l) (lastK l) lo hi N F l.length = false then some (selP lo hi l) else none := by
              unfold btw
              rw [if_neg hN]
              by_cases hr : rejB (firstK l) (lastK l) lo hi N F l.length = false
              · rw [if_pos ⟨h1.1, h1.2, h2, h3.1, h3.2, hit, hr⟩, if_pos hr]
              · rw [if_neg (fun h => hr h.2.2.2.2.2.2), if_neg hr]
            rw [hb]
            unfold rejB
            cases Op.bytesLess (firstK l).toList lo.toList <;> cases decide (F > 0) <;> cases hi.toList == emp.toList <;> cases Op.bytesLess (lastK l).toList hi.toList <;> cases decide (F + (l.length : Int) < N) <;> rfl
        · rw [decide_eq_false h3]
          have : ¬ (0 ≤ F ∧ F ≤ N - 1 ∧ itOk root N F [] l = true ∧ rejB (firstK l) (lastK l) lo hi N F l.length = false) := fun h => h3 ⟨h.1, h.2.1⟩
          simp [btw, hN, h2, this, BtRes]
    · rw [decide_eq_false h1]
      have : ¬ (1 ≤ N ∧ N ≤ 60 ∧ l.length ≠ 0 ∧ 0 ≤ F ∧ F ≤ N - 1 ∧ itOk root N F [] l = true ∧ rejB (firstK l) (lastK l) lo hi N F l.length = false) := fun h => h1 ⟨h.1, h.2.1⟩
      unfold btw
      rw [if_neg hN, if_neg this]
      rfl
theorem implBtw_ok {m : Nat} (hm : 22400000 ≤ m) (root lo hi : ByteArray) (N F : Int) (l : List It) (hx : ∀ x ∈ l, x.ok) (hl : l.length ≤ 1048576) (K : T → T → An) :
    M_CheckBetween m (.s root) (.s lo) (.s hi) (.i N) (.i F) (.l (its l)) K K = BtRes (btw root lo hi N F l) K := by
  obtain ⟨m, rfl⟩ : ∃ m', m = m' + 2 := ⟨m - 2, by omega⟩
  simp only [M_CheckBetween, T.int_i, T.rows_l, its_len, T.str_s]
  by_cases hN : N = 0
  · subst hN
    rw [cond_t (by rfl)]
    by_cases h1 : l.length = 0
    · rw [cond_t (by rw [h1]; rfl)]
      by_cases h2 : F = 0
      · subst h2
        rw [cond_t (by rfl), implRootE (by omega)]
        simp only [T.str_s]
        cases hr : root.toList == rootE.toList <;> simp [btw, h1, hr, BtRes]
      · rw [cond_f (by simp [h2])]
        simp [btw, h2, BtRes]
    · rw [cond_f (by rw [beq_eq_false_iff_ne.2 (show (l.length : Int) ≠ 0 by omega)]; rfl)]
      simp [btw, h1, BtRes]
  · have hb0 : ∀ {P : Prop}, ((1 ≤ N ∧ N ≤ 60 ∧ l.length ≠ 0 ∧ 0 ≤ F ∧ F ≤ N - 1 ∧ itOk root N F [] l = true ∧ rejB (firstK l) (lastK l) lo hi N F l.length = false) → False) → BtRes (btw root lo hi N F l) K = K (.l []) (.b false) := fun {P} h => by
      unfold btw
      rw [if_neg hN, if_neg h]
      rfl
    rw [cond_f (by simp [hN]), inRange_ok (by omega)]
    by_cases h1 : 1 ≤ N ∧ N ≤ 60
    · rw [decide_eq_true h1]
      simp only [T.bool_b, Bool.not_true, beq_self_eq_true, cond_true]
      rw [inRange_ok (by omega)]
      by_cases h2 : 1 ≤ (l.length : Int) ∧ (l.length : Int) ≤ N
      · rw [decide_eq_true h2]
        simp only [T.bool_b, Bool.not_true, beq_self_eq_true, cond_true]
        rw [wrap_i64 (x := N - 1) (by omega) (by omega), inRange_ok (by omega)]
        by_cases h3 : 0 ≤ F ∧ F ≤ N - 1
        · rw [decide_eq_true h3]
          simp only [T.bool_b, Bool.not_true, beq_self_eq_true, cond_true, M_itemsOk, T.rows_l, its_len]
          refine (implItems_loop m (by omega) root N F (by omega) l l [] rfl hx (by simpa using hl) m (by omega) _ _).trans ?_
          cases hit : itOk root N F [] l with
          | false =>
            rw [hb0 (P := True) (fun h => by rw [hit] at h; exact absurd h.2.2.2.2.2.1 (by decide))]
            rfl
          | true =>
            have hle := itOk_len root N F l [] hit (by intro e; subst e; simp at h2)
            simp only [List.length_nil] at hle
            have e1 : IntKind.i64.wrap ((l.length : Int) - 1) = ((l.length - 1 : Nat) : Int) := by rw [wrap_i64 (by omega) (by omega)]; omega
            have e2 : IntKind.i64.wrap (F + ((l.length - 1 : Nat) : Int)) = F + ((l.length - 1 : Nat) : Int) := wrap_i64 (by omega) (by omega)
            have e3 : IntKind.i64.wrap (N - 1) = N - 1 := wrap_i64 (by omega) (by omega)
            simp only [cond_true, T.bool_b, Bool.not_true, beq_self_eq_true, M_reaches, T.int_i, T.rows_l, its_len, e1, e2, e3, Int.toNat_natCast, first_get (l := l) (by omega), last_get (l := l) (by omega), T.str_s]
            rw [dec_t (by omega), dec_t (by omega), show (⟨#[]⟩ : ByteArray) = emp from rfl]
            have hco : ∀ k0, M_CheckBetween_L0_0 (m + 1) (m + 1) (.s lo) (.s hi) (.l (its l)) (.i l.length) (.i 0) (.l []) k0 = k0 (.s lo) (.s hi) (.l (l.map kv)) := fun k0 =>
              (implCo_loop (m + 1) (.s lo) (.s hi) l l [] [] rfl (by simpa using hl) (by simpa using hl) (m + 1) (by omega) k0)
            simp only [hco, T.rows_l, implBetween_ok (m := m + 1) (by omega) lo hi l hl]
            have hb : btw root lo hi N F l = if rejB (firstK l) (lastK l) lo hi N F l.length = false then some (selP lo hi l) else none := by
              unfold btw
              rw [if_neg hN]
              by_cases hr : rejB (firstK l) (lastK l) lo hi N F l.length = false
              · rw [if_pos ⟨h1.1, h1.2, by omega, h3.1, h3.2, hit, hr⟩, if_pos hr]
              · rw [if_neg (fun h => hr h.2.2.2.2.2.2), if_neg hr]
            rw [hb]
            unfold rejB
            have q1 : decide (F > 0) = !(F == 0) := by
              by_cases h : F = 0
              · subst h; rfl
              · rw [decide_eq_true (by omega), beq_eq_false_iff_ne.2 h]; rfl
            have q2 : decide (F + (l.length : Int) < N) = !(F + ((l.length - 1 : Nat) : Int) == N - 1) := by
              by_cases h : F + ((l.length - 1 : Nat) : Int) = N - 1
              · rw [decide_eq_false (by omega), h, beq_self_eq_true]; rfl
              · rw [decide_eq_true (by omega), beq_eq_false_iff_ne.2 h]; rfl
            rw [q1, q2]
            cases Op.bytesLess (firstK l).toList lo.toList <;> cases F == 0 <;> cases hi.toList == emp.toList <;> cases Op.bytesLess (lastK l).toList hi.toList <;> cases (F + ((l.length - 1 : Nat) : Int) == N - 1) <;> rfl
        · rw [decide_eq_false h3, hb0 (P := True) (fun h => h3 ⟨h.2.2.2.1, h.2.2.2.2.1⟩)]
          rfl
      · rw [decide_eq_false h2, hb0 (P := True) (fun h => by
          have hle := itOk_len root N F l [] h.2.2.2.2.2.1 (by intro e; subst e; exact h.2.2.1 rfl)
          simp only [List.length_nil] at hle
          have := h.2.2.1
          omega)]
        rfl
    · rw [decide_eq_false h1, hb0 (P := True) (fun h => h1 ⟨h.1, h.2.1⟩)]
      rfl
end Go.Proofs.YtdhldbjjdlnbmaaGreat

namespace Go.Proofs.YtdhldbjjdlnbmaaGreat
open Go Go.E Go.Proofs
def fnvN (h : Nat) : List UInt8 → Nat
  | [] => h
  | b :: r => fnvN (((h ^^^ b.toNat) * 16777619) % 4294967296) r
theorem wrap_u32 (x : Nat) : IntKind.u32.wrap (x : Int) = ((x % 4294967296 : Nat) : Int) := by
  have e32 : (2 : Int) ^ 32 = 4294967296 := by decide
  simp only [IntKind.wrap, IntKind.bits, IntKind.signed, Bool.false_and, Bool.false_eq_true, if_false, e32]
  omega
theorem ofInt_nat (w x : Nat) : BitVec.ofInt w (x : Int) = BitVec.ofNat w x := by simp
theorem xor_lt32 {a b : Nat} (ha : a < 4294967296) (hb : b < 4294967296) : a ^^^ b < 4294967296 := Nat.xor_lt_two_pow (n := 32) ha hb
theorem step32 (h : Nat) (hh : h < 4294967296) (b : UInt8) :
    IntKind.u32.wrap ((bvBack .u32 (BitVec.ofInt IntKind.u32.bits (h : Int) ^^^ BitVec.ofInt IntKind.u32.bits (IntKind.u32.wrap (b.toNat : Int)))).int * 16777619) = ((((h ^^^ b.toNat) * 16777619) % 4294967296 : Nat) : Int) := by
  have hb := b.toNat_lt
  have e1 : b.toNat % 4294967296 = b.toNat := Nat.mod_eq_of_lt (by omega)
  have hx := xor_lt32 hh (show b.toNat < 4294967296 by omega)
  simp only [bvBack, T.int_i, wrap_u32, e1, ofInt_nat]
  have e2 : (BitVec.ofNat IntKind.u32.bits h ^^^ BitVec.ofNat IntKind.u32.bits b.toNat).toNat = h ^^^ b.toNat := by
    rw [BitVec.toNat_xor, BitVec.toNat_ofNat, BitVec.toNat_ofNat]
    show (h % 2 ^ 32) ^^^ (b.toNat % 2 ^ 32) = _
    rw [Nat.mod_eq_of_lt (by simpa using hh), Nat.mod_eq_of_lt (by omega)]
  rw [e2, Nat.mod_eq_of_lt hx, show (((h ^^^ b.toNat : Nat) : Int) * 16777619) = (((h ^^^ b.toNat) * 16777619 : Nat) : Int) by rw [Int.natCast_mul]; rfl, wrap_u32]
theorem step64 (h : Nat) (hh : h < 4294967296) (b : UInt8) :
    bvBack .i64 (BitVec.ofInt IntKind.i64.bits (IntKind.i64.wrap ((bvBack .i64 (BitVec.ofInt IntKind.i64.bits (h : Int) ^^^ BitVec.ofInt IntKind.i64.bits (IntKind.i64.wrap (b.toNat : Int)))).int * 16777619)) &&& BitVec.ofInt IntKind.i64.bits 4294967295) =
      .i ((((h ^^^ b.toNat) * 16777619) % 4294967296 : Nat) : Int) := by
  have hb := b.toNat_lt
  have hx := xor_lt32 hh (show b.toNat < 4294967296 by omega)
  rw [wrap_i64 (x := (b.toNat : Int)) (by omega) (by omega)]
  have e2 : (BitVec.ofInt IntKind.i64.bits (h : Int) ^^^ BitVec.ofInt IntKind.i64.bits (b.toNat : Int)).toNat = h ^^^ b.toNat := by
    rw [ofInt_nat, ofInt_nat, BitVec.toNat_xor, BitVec.toNat_ofNat, BitVec.toNat_ofNat]
    show (h % 2 ^ 64) ^^^ (b.toNat % 2 ^ 64) = _
    rw [Nat.mod_eq_of_lt (by omega), Nat.mod_eq_of_lt (by omega)]
  simp only [bvBack, T.int_i, e2]
  rw [wrap_i64 (x := ((h ^^^ b.toNat : Nat) : Int)) (by omega) (by omega), show (((h ^^^ b.toNat : Nat) : Int) * 16777619) = (((h ^^^ b.toNat) * 16777619 : Nat) : Int) by rw [Int.natCast_mul]; rfl,
    wrap_i64 (x := (((h ^^^ b.toNat) * 16777619 : Nat) : Int)) (by omega) (by omega)]
  have e3 : (BitVec.ofInt IntKind.i64.bits (((h ^^^ b.toNat) * 16777619 : Nat) : Int) &&& BitVec.ofInt IntKind.i64.bits 4294967295).toNat = ((h ^^^ b.toNat) * 16777619) % 4294967296 := by
    rw [ofInt_nat, show (4294967295 : Int) = ((4294967295 : Nat) : Int) from rfl, ofInt_nat, BitVec.toNat_and, BitVec.toNat_ofNat, BitVec.toNat_ofNat]
    show (((h ^^^ b.toNat) * 16777619) % 2 ^ 64) &&& (4294967295 % 2 ^ 64) = _
    rw [Nat.mod_eq_of_lt (by omega)]
    exact Nat.and_two_pow_sub_one_eq_mod _ 32
  rw [e3]
  rw [wrap_i64 (by omega) (by omega)]
theorem implHash_loop (m : Nat) (s : ByteArray) (hs : s.size ≤ 4611686018427387904) : ∀ (post pre : List UInt8) (h : Nat), h < 4294967296 → s.data.toList = pre ++ post → ∀ n, post.length < n → ∀ k0,
    M_Hash_L0_0 m n (.s s) (.i h) (.i pre.length) k0 = k0 (.i (fnvN h post : Nat))
  | [], pre, h, hh, e, n, hn, k0 => by
    obtain ⟨n, rfl⟩ : ∃ m', n = m' + 1 := ⟨n - 1, by omega⟩
    have hz := ba_size s
    rw [e] at hz
    simp only [M_Hash_L0_0, T.int_i, T.str_s]
    rw [dec_f (by simp at hz; omega)]
    rfl
  | x :: post, pre, h, hh, e, n, hn, k0 => by
    obtain ⟨n, rfl⟩ : ∃ m', n = m' + 1 := ⟨n - 1, by omega⟩
    have hz := ba_size s
    rw [e] at hz
    simp only [List.length_append, List.length_cons] at hz hn
    simp only [M_Hash_L0_0, T.int_i, T.str_s, e, ix_byte, ix_nx pre (by omega), step32 h hh x]
    rw [dec_t (by omega), dec_t (by omega)]
    have ih := implHash_loop m s hs post (pre ++ [x]) _ (Nat.mod_lt ((h ^^^ x.toNat) * 16777619) (by omega)) (by rw [e]; simp) n (by omega) k0
    rw [len_snoc] at ih
    exact ih
theorem specHash_loop (m : Nat) (s : ByteArray) (hs : s.size ≤ 4611686018427387904) : ∀ (post pre : List UInt8) (h : Nat), h < 4294967296 → s.data.toList = pre ++ post → ∀ n, post.length < n → ∀ k0,
    S_Hash_L0_0 m n (.s s) (.i h) (.i pre.length) k0 = k0 (.i (fnvN h post : Nat))
  | [], pre, h, hh, e, n, hn, k0 => by
    obtain ⟨n, rfl⟩ : ∃ m', n = m' + 1 := ⟨n - 1, by omega⟩
    have hz := ba_size s
    rw [e] at hz
    simp only [S_Hash_L0_0, T.int_i, T.str_s]
    rw [dec_f (by simp at hz; omega)]
    rfl
  | x :: post, pre, h, hh, e, n, hn, k0 => by
    obtain ⟨n, rfl⟩ : ∃ m', n = m' + 1 := ⟨n - 1, by omega⟩
    have hz := ba_size s
    rw [e] at hz
    simp only [List.length_append, List.length_cons] at hz hn
    simp only [S_Hash_L0_0, T.int_i, T.str_s, e, ix_byte, ix_nx pre (by omega), step64 h hh x]
    rw [dec_t (by omega), dec_t (by omega)]
    have ih := specHash_loop m s hs post (pre ++ [x]) _ (Nat.mod_lt ((h ^^^ x.toNat) * 16777619) (by omega)) (by rw [e]; simp) n (by omega) k0
    rw [len_snoc] at ih
    exact ih
theorem fnvN_lt : ∀ (l : List UInt8) (h : Nat), h < 4294967296 → fnvN h l < 4294967296
  | [], h, hh => hh
  | b :: r, h, hh => fnvN_lt r _ (Nat.mod_lt _ (by omega))
def fnvP (s : ByteArray) : Nat := fnvN 2166136261 s.data.toList
theorem fnvP_lt (s : ByteArray) : fnvP s < 4294967296 := fnvN_lt _ _ (by omega)
theorem implHash_ok {m : Nat} (s : ByteArray) (hs : s.size ≤ 1048576) (hm : 1048580 ≤ m) (k : T → An) : M_Hash m (.s s) k = k (.i (fnvP s : Nat)) := by
  obtain ⟨m, rfl⟩ : ∃ m', m = m' + 1 := ⟨m - 1, by omega⟩
  have hz := ba_size s
  have hl := fnvP_lt s
  refine (implHash_loop m s (by omega) s.data.toList [] 2166136261 (by omega) rfl m (by omega) _).trans ?_
  rw [T.int_i]
  exact congrArg (fun x => k (T.i x)) (wrap_i64 (x := (fnvP s : Nat)) (by omega) (by omega))
theorem specHash_ok {m : Nat} (s : ByteArray) (hs : s.size ≤ 1048576) (hm : 1048580 ≤ m) (k : T → An) : S_Hash m (.s s) k = k (.i (fnvP s : Nat)) := by
  obtain ⟨m, rfl⟩ : ∃ m', m = m' + 1 := ⟨m - 1, by omega⟩
  have hz := ba_size s
  exact specHash_loop m s (by omega) s.data.toList [] 2166136261 (by omega) rfl m (by omega) _
def shardP (s : ByteArray) (n : Int) : Nat := if n < 1 then 0 else fnvP s % n.toNat
theorem shardP_lt (s : ByteArray) (n : Int) : shardP s n < 4294967296 := by
  unfold shardP
  split
  · omega
  · exact Nat.lt_of_le_of_lt (Nat.mod_le _ _) (fnvP_lt s)
theorem implShard_ok {m : Nat} (s : ByteArray) (n : Int) (hs : s.size ≤ 1048576) (hm : 1048585 ≤ m) (k : T → An) : M_ShardOf m (.s s) (.i n) k = k (.i (shardP s n : Nat)) := by
  obtain ⟨m, rfl⟩ : ∃ m', m = m' + 1 := ⟨m - 1, by omega⟩
  simp only [M_ShardOf, T.int_i]
  unfold shardP
  by_cases h : n < 1
  · rw [dec_t h, if_pos h]; rfl
  · obtain ⟨j, rfl⟩ : ∃ j : Nat, n = j := ⟨n.toNat, by omega⟩
    rw [dec_f h, implHash_ok s hs (by omega), if_neg h, cond_t (by simp; omega)]
    rw [T.int_i, ← Int.ofNat_tmod]; rfl
theorem specShard_ok {m : Nat} (s : ByteArray) (n : Int) (hs : s.size ≤ 1048576) (hm : 1048585 ≤ m) (k : T → An) : S_ShardOf m (.s s) (.i n) k = k (.i (shardP s n : Nat)) := by
  obtain ⟨m, rfl⟩ : ∃ m', m = m' + 1 := ⟨m - 1, by omega⟩
  simp only [S_ShardOf, T.int_i]
  unfold shardP
  by_cases h : n < 1
  · rw [dec_t h, if_pos h]; rfl
  · obtain ⟨j, rfl⟩ : ∃ j : Nat, n = j := ⟨n.toNat, by omega⟩
    rw [dec_f h, specHash_ok s hs (by omega), if_neg h, cond_t (by simp; omega)]
    rw [T.int_i, ← Int.ofNat_tmod]; rfl
def shOk (n i : Int) (s : List It) : Bool := s.all fun x => ((shardP x.key n : Nat) : Int) == i
theorem specIs_loop (m : Nat) (hm : 1048700 ≤ m) (lo hi x6 x7 x8 x9 : T) (n i : Int) (out : List (List T)) : ∀ (post pre : List It), (∀ x ∈ post, x.ok) → pre.length + post.length ≤ 1048576 → ∀ f, post.length < f → ∀ k0 k1,
    S_CheckBundle_L1_0 m f lo hi (.i 0) (.i n) (.i i) (.i pre.length) x6 x7 x8 x9 (.l []) (.l out) (.l ((pre ++ post).map kv)) k0 k1 =
      cond (shOk n i post) (k1 lo hi (.i 0) (.i n) (.i i) x6 x7 x8 x9 (.l []) (.l out) (.l ((pre ++ post).map kv))) (k0 (.b false) (.l []))
  | [], pre, hx, hs, f, hf, k0, k1 => by
    obtain ⟨f, rfl⟩ : ∃ m', f = m' + 1 := ⟨f - 1, by omega⟩
    simp only [S_CheckBundle_L1_0, T.int_i, T.rows_l]
    rw [dec_f (by simp)]
    rfl
  | x :: post, pre, hx, hs, f, hf, k0, k1 => by
    obtain ⟨f, rfl⟩ : ∃ m', f = m' + 1 := ⟨f - 1, by omega⟩
    simp only [List.length_cons] at hs hf
    have ih := specIs_loop m hm lo hi x6 x7 x8 x9 n i out post (pre ++ [x]) (fun y hy => hx y (by simp [hy])) (by simp; omega) f (by omega) k0 k1
    have hxo := (hx x (by simp)).1
    rw [len_snoc, List.append_assoc, List.singleton_append] at ih
    simp only [S_CheckBundle_L1_0, T.int_i, T.rows_l, kv_get, ix_nx pre (by omega)]
    rw [dec_t (by simp <;> omega), dec_t (by simp <;> omega), dec_t (by simp)]
    simp only [kv, List.getD_cons_zero]
    rw [specShard_ok x.key n (by omega) (by omega)]
    simp only [shOk, List.all_cons, T.int_i, bne]
    cases ((shardP x.key n : Nat) : Int) == i with
    | false => rfl
    | true => exact ih
theorem implIs_loop (m : Nat) (hm : 1048700 ≤ m) (n i : Int) (l : List It) : ∀ (post pre : List It), l = pre ++ post → (∀ x ∈ post, x.ok) → pre.length + post.length ≤ 1048576 → ∀ f, post.length < f → ∀ k0 k1,
    M_isOf_L0_0 m f (.i i) (.i n) (.l (l.map kv)) (.i l.length) (.i pre.length) k0 k1 = cond (shOk n i post) k1 (k0 (.b false))
  | [], pre, he, hx, hs, f, hf, k0, k1 => by
    obtain ⟨f, rfl⟩ : ∃ m', f = m' + 1 := ⟨f - 1, by omega⟩
    subst he
    simp only [M_isOf_L0_0, T.int_i, T.rows_l]
    rw [dec_f (by simp)]
    rfl
  | x :: post, pre, he, hx, hs, f, hf, k0, k1 => by
    obtain ⟨f, rfl⟩ : ∃ m', f = m' + 1 := ⟨f - 1, by omega⟩
    simp only [List.length_cons] at hs hf
    have ih := implIs_loop m hm n i l post (pre ++ [x]) (by rw [he]; simp) (fun y hy => hx y (by simp [hy])) (by simp; omega) f (by omega) k0 k1
    have hxo := (hx x (by simp)).1
    subst he
    rw [len_snoc] at ih
    simp only [M_isOf_L0_0, T.int_i, T.rows_l, kv_get, ix_nx pre (by omega), List.length_map]
    rw [dec_t (by simp <;> omega), dec_t (by simp <;> omega)]
    simp only [kv, List.getD_cons_zero]
    rw [implShard_ok x.key n (by omega) (by omega)]
    simp only [shOk, List.all_cons, T.int_i, bne]
    cases ((shardP x.key n : Nat) : Int) == i with
    | false => rfl
    | true => exact ih
theorem implIs_ok {m : Nat} (hm : 1048710 ≤ m) (n i : Int) (s : List It) (hx : ∀ x ∈ s, x.ok) (hs : s.length ≤ 1048576) (k : T → An) : M_isOf m (.l (s.map kv)) (.i i) (.i n) k = k (.b (shOk n i s)) := by
  obtain ⟨m, rfl⟩ : ∃ m', m = m' + 1 := ⟨m - 1, by omega⟩
  simp only [M_isOf, T.rows_l, List.length_map]
  refine (implIs_loop m (by omega) n i s s [] rfl hx (by simpa using hs) m (by omega) _ _).trans ?_
  cases shOk n i s <;> rfl
def selI (lo hi : ByteArray) (l : List It) : List It := l.filter fun x => inB x.key lo hi
theorem selP_eq (lo hi : ByteArray) : ∀ l, selP lo hi l = (selI lo hi l).map kv
  | [] => rfl
  | x :: l => by
    unfold selP
    rw [selP_eq lo hi l]
    unfold selI
    cases h : inB x.key lo hi <;> simp [h]
def btI (root lo hi : ByteArray) (N F : Int) (l : List It) : Option (List It) :=
  if N = 0 then (if l.length = 0 ∧ F = 0 ∧ (root.toList == rootE.toList) = true then some [] else none)
  else if 1 ≤ N ∧ N ≤ 60 ∧ l.length ≠ 0 ∧ 0 ≤ F ∧ F ≤ N - 1 ∧ itOk root N F [] l = true ∧ rejB (firstK l) (lastK l) lo hi N F l.length = false then some (selI lo hi l) else none
theorem btw_eq (root lo hi : ByteArray) (N F : Int) (l : List It) : btw root lo hi N F l = (btI root lo hi N F l).map (·.map kv) := by
  unfold btw btI
  split
  · split <;> rfl
  · split
    · rw [selP_eq]; rfl
    · rfl
theorem btI_ok {root lo hi : ByteArray} {N F : Int} {l s : List It} (h : btI root lo hi N F l = some s) : s.length ≤ 60 ∧ ∀ x ∈ s, x ∈ l := by
  unfold btI at h
  split at h
  · split at h
    · cases h; simp
    · cases h
  · split at h
    · rename_i hc
      have hle := itOk_len root N F l [] hc.2.2.2.2.2.1 (by intro e; subst e; exact hc.2.2.1 rfl)
      simp only [List.length_nil] at hle
      cases h
      have h1 := List.length_filter_le (fun x : It => inB x.key lo hi) l
      refine ⟨by unfold selI; omega, fun x hx => ?_⟩
      exact (List.mem_filter.1 hx).1
    · cases h
structure Pf where
  N : Int
  F : Int
  items : List It
def rPf (p : Pf) : List T := [.i p.N, .i p.F, .l (its p.items)]
def Pf.ok (p : Pf) : Prop := (∀ x ∈ p.items, x.ok) ∧ p.items.length ≤ 1048576
def zR (z : List (ByteArray × Pf)) : List (List T) := z.map fun x => [T.s x.1]
def zP (z : List (ByteArray × Pf)) : List (List T) := z.map fun x => rPf x.2
theorem zR_get (pre : List (ByteArray × Pf)) (x : ByteArray × Pf) (post : List (ByteArray × Pf)) : (zR (pre ++ x :: post)).getD (Int.toNat (pre.length : Int)) [] = [T.s x.1] := by simp [zR, List.getD]
theorem zP_get (pre : List (ByteArray × Pf)) (x : ByteArray × Pf) (post : List (ByteArray × Pf)) : (zP (pre ++ x :: post)).getD (Int.toNat (pre.length : Int)) [] = rPf x.2 := by simp [zP, List.getD]
theorem zR_len (z : List (ByteArray × Pf)) : (zR z).length = z.length := by simp [zR]
theorem zP_len (z : List (ByteArray × Pf)) : (zP z).length = z.length := by simp [zP]
def bunGo (lo hi : ByteArray) (n : Int) : Nat → List (ByteArray × Pf) → List (List T) → Option (List (List T))
  | _, [], acc => some acc
  | i, x :: post, acc => match btI x.1 lo hi x.2.N x.2.F x.2.items with
    | none => none
    | some s => cond (shOk n i s) (bunGo lo hi n (i + 1) post (foldP acc (s.map kv))) none
theorem bunGo_two (lo hi : ByteArray) (n : Int) : ∀ (z : List (ByteArray × Pf)) (i : Nat) (acc out : List (List T)), (∀ r ∈ acc, r.length = 2) → bunGo lo hi n i z acc = some out → (∀ r ∈ out, r.length = 2) ∧ out.length ≤ acc.length + 60 * z.length
  | [], i, acc, out, h, he => by
    cases he
    exact ⟨h, by simp⟩
  | x :: z, i, acc, out, h, he => by
    unfold bunGo at he
    split at he
    · cases he
    · rename_i s hs
      cases hsh : shOk n i s with
      | false => rw [hsh] at he; cases he
      | true =>
        rw [hsh] at he
        have h1 := bunGo_two lo hi n z (i + 1) _ out (foldP_two _ acc h) he
        have h2 := foldP_len (s.map kv) acc
        have h3 := (btI_ok hs).1
        rw [List.length_map] at h2
        refine ⟨h1.1, ?_⟩
        simp only [List.length_cons]
        omega
theorem specBun_loop (m : Nat) (hm : 22500000 ≤ m) (lo hi : ByteArray) (x5 x6 : T) (N : Nat) (z : List (ByteArray × Pf)) (hz : z.length = N) (hN : N ≤ 8) : ∀ (post pre : List (ByteArray × Pf)) (acc : List (List T)), z = pre ++ post → (∀ x ∈ post, x.2.ok) → acc.length + 60 * post.length ≤ 1000 → ∀ f, post.length + 1048600 < f → ∀ k0 k1,
    S_CheckBundle_L0_0 m f (.s lo) (.s hi) (.i 0) (.i N) (.i pre.length) x5 x6 (.l (zR z)) (.l (zP z)) (.l []) (.l acc) k0 k1 =
      match bunGo lo hi N pre.length post acc with
      | some out => k1 (.l out)
      | none => k0 (.b false) (.l [])
  | [], pre, acc, he, hx, hc, f, hf, k0, k1 => by
    obtain ⟨f, rfl⟩ : ∃ m', f = m' + 1 := ⟨f - 1, by omega⟩
    subst he
    simp only [S_CheckBundle_L0_0, T.int_i, T.rows_l]
    rw [dec_f (by simp at hz; omega)]
    rfl
  | x :: post, pre, acc, he, hx, hc, f, hf, k0, k1 => by
    obtain ⟨f, rfl⟩ : ∃ m', f = m' + 1 := ⟨f - 1, by omega⟩
    have ih := fun acc hc => specBun_loop m hm lo hi x5 x6 N z hz hN post (pre ++ [x]) acc (by rw [he]; simp) (fun y hy => hx y (by simp [hy])) hc f (by simp at hf; omega) k0 k1
    obtain ⟨hx1, hx2⟩ := hx x (by simp)
    subst he
    simp only [List.length_append, List.length_cons] at hz hc hf
    rw [len_snoc] at ih
    simp only [S_CheckBundle_L0_0, T.int_i, T.rows_l, zR_get, zP_get, zR_len, zP_len, ix_nx pre (by omega)]
    rw [dec_t (by omega), dec_t (by simp <;> omega), dec_t (by simp <;> omega)]
    simp only [rPf, List.getD_cons_zero, List.getD_cons_succ, T.rows_l]
    rw [specBetween_ok (by omega) x.1 lo hi x.2.N x.2.F x.2.items hx1 hx2, btw_eq]
    unfold bunGo
    cases hb : btI x.1 lo hi x.2.N x.2.F x.2.items with
    | none => rfl
    | some s =>
      obtain ⟨hs1, hs2⟩ := btI_ok hb
      simp only [Option.map_some, BtRes, T.bool_b, Bool.not_true, cond_false, T.rows_l]
      have hin := fun k0 k1 => specIs_loop m (by omega) (.s lo) (.s hi) x5 x6 (.l (zR (pre ++ x :: post))) (.l (zP (pre ++ x :: post))) N (pre.length : Nat) acc s [] (fun y hy => hx1 y (hs2 y hy)) (by simp; omega) f (by omega) k0 k1
      refine (hin _ _).trans ?_
      cases hsh : shOk N (pre.length : Nat) s with
      | false => rfl
      | true =>
        simp only [cond_true, T.rows_l, T.int_i, List.nil_append, ix_nx pre (by omega)]
        have hfl := foldP_len (s.map kv) acc
        rw [List.length_map] at hfl
        rw [specU_ok acc (s.map kv) (by rw [List.length_map]; omega) (by omega)]
        refine (ih (foldP acc (s.map kv)) (by omega)).trans ?_
        have e : (pre ++ [x]).length = pre.length + 1 := by simp
        rw [e]
theorem implBun_loop (m : Nat) (hm : 22500000 ≤ m) (lo hi : ByteArray) (x7 x8 x10 : T) (N : Nat) (z : List (ByteArray × Pf)) (hz : z.length = N) (hN : N ≤ 8) : ∀ (post pre : List (ByteArray × Pf)) (acc : List (List T)), z = pre ++ post → (∀ x ∈ post, x.2.ok) → acc.length + 60 * post.length ≤ 1000 → ∀ f, post.length < f → ∀ k0 k1,
    M_CheckBundle_L0_0 m f (.s lo) (.s hi) (.i 0) (.i N) (.l (zP z)) (.i N) (.i pre.length) x7 x8 (.l (zR z)) x10 (.l acc) k0 k1 =
      match bunGo lo hi N pre.length post acc with
      | some out => k1 (.l out)
      | none => k0 (.b false) (.l [])
  | [], pre, acc, he, hx, hc, f, hf, k0, k1 => by
    obtain ⟨f, rfl⟩ : ∃ m', f = m' + 1 := ⟨f - 1, by omega⟩
    subst he
    simp only [M_CheckBundle_L0_0, T.int_i, T.rows_l]
    rw [dec_f (by simp at hz; omega)]
    rfl
  | x :: post, pre, acc, he, hx, hc, f, hf, k0, k1 => by
    obtain ⟨f, rfl⟩ : ∃ m', f = m' + 1 := ⟨f - 1, by omega⟩
    have ih := fun acc hc => implBun_loop m hm lo hi x7 x8 x10 N z hz hN post (pre ++ [x]) acc (by rw [he]; simp) (fun y hy => hx y (by simp [hy])) hc f (by simp at hf; omega) k0 k1
    obtain ⟨hx1, hx2⟩ := hx x (by simp)
    subst he
    simp only [List.length_append, List.length_cons] at hz hc hf
    rw [len_snoc] at ih
    simp only [M_CheckBundle_L0_0, T.int_i, T.rows_l, zR_get, zP_get, zR_len, zP_len, ix_nx pre (by omega)]
    rw [dec_t (by omega), dec_t (by simp <;> omega), dec_t (by simp <;> omega)]
    simp only [rPf, List.getD_cons_zero, List.getD_cons_succ, T.rows_l]
    rw [implBtw_ok (by omega) x.1 lo hi x.2.N x.2.F x.2.items hx1 hx2, btw_eq]
    unfold bunGo
    cases hb : btI x.1 lo hi x.2.N x.2.F x.2.items with
    | none => rfl
    | some s =>
      obtain ⟨hs1, hs2⟩ := btI_ok hb
      simp only [Option.map_some, BtRes, T.bool_b, Bool.not_true, beq_self_eq_true, cond_true, T.rows_l]
      rw [implIs_ok (by omega) N (pre.length : Nat) s (fun y hy => hx1 y (hs2 y hy)) (by omega)]
      cases hsh : shOk N (pre.length : Nat) s with
      | false => rfl
      | true =>
        simp only [T.bool_b, Bool.not_true, cond_false, cond_true]
        have hfl := foldP_len (s.map kv) acc
        rw [List.length_map] at hfl
        rw [implU_ok acc (s.map kv) (by rw [List.length_map]; omega) (by omega)]
        refine (ih (foldP acc (s.map kv)) (by omega)).trans ?_
        have e : (pre ++ [x]).length = pre.length + 1 := by simp
        rw [e]
end Go.Proofs.YtdhldbjjdlnbmaaGreat

namespace Go.Proofs.YtdhldbjjdlnbmaaGreat
open Go Go.E Go.Proofs
def bunB (sup lo hi : ByteArray) (no : Int) (prev : ByteArray) (roots : List ByteArray) (ps : List Pf) : List (List T) × Bool :=
  if ((superS no prev roots).toList == sup.toList) = true ∧ 1 ≤ (roots.length : Int) ∧ (roots.length : Int) ≤ 8 ∧ ps.length = roots.length then
    match bunGo lo hi roots.length 0 (roots.zip ps) [] with
    | some out => (out, true)
    | none => ([], false)
  else ([], false)
theorem zip_R : ∀ {a : List ByteArray} {b : List Pf}, b.length = a.length → zR (a.zip b) = sr a
  | [], _, _ => by simp [zR, sr]
  | x :: a, [], h => by simp at h
  | x :: a, y :: b, h => by
    have := zip_R (a := a) (b := b) (by simpa using h)
    simp only [zR, sr, List.zip_cons_cons, List.map_cons] at this ⊢
    rw [this]
theorem zip_P : ∀ {a : List ByteArray} {b : List Pf}, b.length = a.length → zP (a.zip b) = b.map rPf
  | [], [], _ => rfl
  | [], y :: b, h => by simp at h
  | x :: a, [], h => by simp at h
  | x :: a, y :: b, h => by
    have := zip_P (a := a) (b := b) (by simpa using h)
    simp only [zP, List.zip_cons_cons, List.map_cons] at this ⊢
    rw [this]
theorem specBundle_ok {m : Nat} (hm : 23000000 ≤ m) (sup lo hi : ByteArray) (no : Int) (prev : ByteArray) (roots : List ByteArray) (ps : List Pf) (h : prev.size + sumS roots + 100 ≤ 1073741824) (hr : roots.length ≤ 1048576) (hp : ∀ p ∈ ps, p.ok) (K : T → T → An) :
    S_CheckBundle m (.s sup) (.s lo) (.s hi) (.i no) (.s prev) (.l (sr roots)) (.l (ps.map rPf)) K K = K (.l (bunB sup lo hi no prev roots ps).1) (.b (bunB sup lo hi no prev roots ps).2) := by
  obtain ⟨m, rfl⟩ : ∃ m', m = m' + 1 := ⟨m - 1, by omega⟩
  simp only [S_CheckBundle, T.rows_l, T.int_i, sr_len, List.length_map]
  rw [S_SuperOf_ok no prev roots h (by omega) (by omega)]
  simp only [T.str_s]
  unfold bunB
  cases h1 : (superS no prev roots).toList == sup.toList with
  | false => simp
  | true =>
    rw [cond_t (by rfl), l1In_ok (by omega)]
    by_cases h2 : 1 ≤ (roots.length : Int) ∧ (roots.length : Int) ≤ 8
    · rw [decide_eq_true h2]
      simp only [T.bool_b, Bool.not_true, beq_self_eq_true, cond_true]
      by_cases h3 : ps.length = roots.length
      · rw [if_pos ⟨by trivial, h2.1, h2.2, h3⟩, cond_f (by rw [h3]; simp)]
        have hlz : (roots.zip ps).length = roots.length := by simp [h3]
        have := specBun_loop m (by omega) lo hi (.i no) (.s prev) roots.length (roots.zip ps) hlz (by omega) (roots.zip ps) [] [] rfl (fun x hx => hp x.2 (List.of_mem_zip hx).2) (by rw [hlz]; simp; omega) m (by rw [hlz]; omega) (fun y71 y72 => K (T.l y72.rows) y71) (fun y73 => K (T.l y73.rows) (T.b true))
        rw [zip_R h3, zip_P h3] at this
        refine this.trans ?_
        simp only [List.length_nil]
        cases bunGo lo hi roots.length 0 (roots.zip ps) [] <;> rfl
      · rw [if_neg (fun h => h3 h.2.2.2), cond_t (by simp; omega)]
    · rw [decide_eq_false h2, if_neg (fun h => h2 ⟨h.2.1, h.2.2.1⟩)]
      rfl
theorem implBundle_ok {m : Nat} (hm : 23000000 ≤ m) (sup lo hi : ByteArray) (no : Int) (prev : ByteArray) (roots : List ByteArray) (ps : List Pf) (h : prev.size + sumS roots + 100 ≤ 1073741824) (hr : roots.length ≤ 1048576) (hp : ∀ p ∈ ps, p.ok) (K : T → T → An) :
    M_CheckBundle m (.s sup) (.s lo) (.s hi) (.i no) (.s prev) (.l (sr roots)) (.l (ps.map rPf)) K K = K (.l (bunB sup lo hi no prev roots ps).1) (.b (bunB sup lo hi no prev roots ps).2) := by
  obtain ⟨m, rfl⟩ : ∃ m', m = m' + 1 := ⟨m - 1, by omega⟩
  simp only [M_CheckBundle, T.rows_l, T.int_i, sr_len, List.length_map]
  rw [M_SuperOf_ok no prev roots h (by omega)]
  simp only [T.str_s]
  unfold bunB
  cases h1 : (superS no prev roots).toList == sup.toList with
  | false => simp
  | true =>
    rw [cond_t (by rfl), inRange_ok (by omega)]
    by_cases h2 : 1 ≤ (roots.length : Int) ∧ (roots.length : Int) ≤ 8
    · rw [decide_eq_true h2]
      simp only [T.bool_b, Bool.not_true, beq_self_eq_true, cond_true]
      by_cases h3 : ps.length = roots.length
      · rw [if_pos ⟨by trivial, h2.1, h2.2, h3⟩, cond_f (by rw [h3]; simp)]
        have hlz : (roots.zip ps).length = roots.length := by simp [h3]
        have := implBun_loop m (by omega) lo hi (.i no) (.s prev) (.l (ps.map rPf)) roots.length (roots.zip ps) hlz (by omega) (roots.zip ps) [] [] rfl (fun x hx => hp x.2 (List.of_mem_zip hx).2) (by rw [hlz]; simp; omega) m (by rw [hlz]; omega) (fun y10 y11 => K (T.l y11.rows) y10) (fun y12 => K (T.l y12.rows) (T.b true))
        rw [zip_R h3, zip_P h3] at this
        rw [h3]
        refine this.trans ?_
        simp only [List.length_nil]
        cases bunGo lo hi roots.length 0 (roots.zip ps) [] <;> rfl
      · rw [if_neg (fun h => h3 h.2.2.2), cond_t (by simp; omega)]
    · rw [decide_eq_false h2, if_neg (fun h => h2 ⟨h.2.1, h.2.2.1⟩)]
      rfl
theorem bunB_two (sup lo hi : ByteArray) (no : Int) (prev : ByteArray) (roots : List ByteArray) (ps : List Pf) : (∀ r ∈ (bunB sup lo hi no prev roots ps).1, r.length = 2) ∧ (bunB sup lo hi no prev roots ps).1.length ≤ 480 := by
  have hnil : (∀ r ∈ (([] : List (List T)), false).1, r.length = 2) ∧ (([] : List (List T)), false).1.length ≤ 480 := ⟨fun r hr => (nomatch hr), Nat.zero_le _⟩
  unfold bunB
  split
  · rename_i hc
    split
    · rename_i out ho
      have h := bunGo_two lo hi roots.length (roots.zip ps) 0 [] out (fun r hr => (nomatch hr)) ho
      have hlz : (roots.zip ps).length = roots.length := by simp [hc.2.2.2]
      have h2 : out.length ≤ 0 + 60 * (roots.zip ps).length := h.2
      exact ⟨h.1, show out.length ≤ 480 by omega⟩
    · exact hnil
  · exact hnil
theorem sr_sz : ∀ {l : List ByteArray} {s : ByteArray}, s ∈ l → s.size ≤ rowsSz (sr l)
  | [], s, h => by cases h
  | x :: l, s, h => by
    simp only [sr, List.map_cons, rowsSz, rowSz, tsz]
    rcases List.mem_cons.1 h with rfl | h
    · omega
    · have := sr_sz h
      unfold sr at this
      omega
theorem rows_it : ∀ {rows : List (List T)}, (∀ r ∈ rows, WtRow esItem r) → rowsBulk rows ≤ 1048576 → ∃ l, rows = its l ∧ ∀ x ∈ l, x.ok
  | [], _, _ => ⟨[], rfl, fun x hx => by cases hx⟩
  | r :: rows, h, hb => by
    simp only [rowsBulk] at hb
    obtain ⟨l, rfl, h1⟩ := rows_it (rows := rows) (fun r hr => h r (by simp [hr])) (by omega)
    have hr := h r (by simp)
    simp only [esItem, WtRow, WtT] at hr
    obtain ⟨_, _, rfl, ⟨a0, rfl, -⟩, _, _, rfl, ⟨a1, rfl, -⟩, _, _, rfl, ⟨a2, rfl, h2⟩, rfl⟩ := hr
    simp only [rowBulk, tbulk] at hb
    obtain ⟨p, rfl, q1, q2, q3⟩ := rows_sr (rows := a2) (fun r hr => by
      have := h2 r hr
      simpa only [esString, WtRow, WtT] using this)
    refine ⟨⟨a0, a1, p⟩ :: l, rfl, fun x hx => ?_⟩
    rcases List.mem_cons.1 hx with rfl | hx
    · refine ⟨?_, fun s hs => ?_, ?_⟩
      · show a0.size + a1.size ≤ _
        omega
      · have := sr_sz (l := p) hs
        show s.size ≤ _
        omega
      · show p.length ≤ _
        omega
    · exact h1 x hx
theorem rows_pf : ∀ {rows : List (List T)}, (∀ r ∈ rows, WtRow esProof r) → rowsBulk rows ≤ 1048576 → ∃ l : List Pf, rows = l.map rPf ∧ ∀ p ∈ l, p.ok
  | [], _, _ => ⟨[], rfl, fun x hx => by cases hx⟩
  | r :: rows, h, hb => by
    simp only [rowsBulk] at hb
    obtain ⟨l, rfl, h1⟩ := rows_pf (rows := rows) (fun r hr => h r (by simp [hr])) (by omega)
    have hr := h r (by simp)
    simp only [esProof, WtRow, WtT] at hr
    obtain ⟨_, _, rfl, ⟨a0, rfl, -⟩, _, _, rfl, ⟨a1, rfl, -⟩, _, _, rfl, ⟨a2, rfl, h2⟩, rfl⟩ := hr
    simp only [rowBulk, tbulk] at hb
    have h2' : ∀ r ∈ a2, WtRow esItem r := fun r hr => by
      have := h2 r hr
      simpa only [esItem, esString, WtRow, WtT] using this
    obtain ⟨p, rfl, q1⟩ := rows_it h2' (by omega)
    have hln := wtRows_len (es := esItem) (by simp) h2'
    rw [its_len] at hln
    refine ⟨⟨a0, a1, p⟩ :: l, rfl, fun x hx => ?_⟩
    rcases List.mem_cons.1 hx with rfl | hx
    · exact ⟨q1, by show p.length ≤ _; omega⟩
    · exact h1 x hx
theorem markBundle_ok {m : Nat} (hm : 1048630 ≤ m) (x0 x1 : T) (a2 a3 : List (List T)) (h2 : ∀ r ∈ a2, WtRow esString r) (h3 : ∀ r ∈ a3, WtRow esProof r) (hb : 1 + rowsBulk a2 + rowsBulk a3 ≤ 1048577) :
    ∃ (k' : Nat) (r2 r3 : List (List T)), ∀ K, W_markBundle m x0 x1 (.l a2) (.l a3) (.i 1) K = K (.i k') (.l r2) (.l r3) := by
  obtain ⟨m, rfl⟩ : ∃ m', m = m' + 1 := ⟨m - 1, by omega⟩
  obtain ⟨k2, r2, l2, u2, e2⟩ := markStringS_ok (m := m) (by omega) a2 h2 1 (by omega) (by omega)
  obtain ⟨k3, r3, l3, u3, e3⟩ := markProofS_ok (m := m) (by omega) a3 h3 k2 (by omega) (by omega)
  refine ⟨k3, r2, r3, fun K => ?_⟩
  simp only [W_markBundle, T.rows_l]
  refine (e2 _).trans ?_
  refine (e3 _).trans ?_
  rfl
end Go.Proofs.YtdhldbjjdlnbmaaGreat

namespace Go.Proofs.YtdhldbjjdlnbmaaGreat
open Go Go.E Go.Proofs
mutual
def neT : LT → Bool
  | .sc .any => false
  | .sc _ => true
  | .sl es => !es.isEmpty && neTs es
def neTs : List LT → Bool
  | [] => true
  | e :: es => neT e && neTs es
end
theorem rowsSz_le {es : List LT} (hes : es ≠ []) (h : ∀ r, WtRow es r → rowSz r + es.length ≤ rowBulk r) : ∀ {rows : List (List T)}, (∀ r ∈ rows, WtRow es r) → rows.length + rowsSz rows ≤ rowsBulk rows
  | [], _ => by simp [rowsSz]
  | r :: rows, hr => by
    have h1 := rowsSz_le hes h (rows := rows) fun r h => hr r (by simp [h])
    have h2 := h r (hr r (by simp))
    have h3 : 0 < es.length := List.length_pos_iff.2 hes
    simp only [rowsSz, rowsBulk, List.length_cons]
    omega
mutual
theorem tsz_le : ∀ (lt : LT), neT lt = true → ∀ t, WtT lt t → tsz t + 1 ≤ tbulk t
  | .sc (.int k), _, t, h => by unfold WtT at h; obtain ⟨n, rfl, -⟩ := h; simp [tsz, tbulk]
  | .sc .bool, _, t, h => by unfold WtT at h; obtain ⟨n, rfl⟩ := h; simp [tsz, tbulk]
  | .sc .str, _, t, h => by unfold WtT at h; obtain ⟨n, rfl, -⟩ := h; simp [tsz, tbulk]
  | .sc .any, h, _, _ => by unfold neT at h; cases h
  | .sl es, hn, t, h => by
    unfold neT at hn
    simp only [Bool.and_eq_true, Bool.not_eq_true', List.isEmpty_eq_false_iff] at hn
    unfold WtT at h
    obtain ⟨rows, rfl, h⟩ := h
    have := rowsSz_le hn.1 (rowSz_le es hn.2) h
    simp only [tsz, tbulk]
    omega
theorem rowSz_le : ∀ (es : List LT), neTs es = true → ∀ r, WtRow es r → rowSz r + es.length ≤ rowBulk r
  | [], _, r, h => by unfold WtRow at h; subst h; simp [rowSz, rowBulk]
  | e :: es, hn, r, h => by
    unfold neTs at hn
    simp only [Bool.and_eq_true] at hn
    unfold WtRow at h
    obtain ⟨d, r, rfl, h1, h2⟩ := h
    have h3 := tsz_le e hn.1 d h1
    have h4 := rowSz_le es hn.2 r h2
    simp only [rowSz, rowBulk, List.length_cons]
    omega
end
theorem rowsBulk_mem : ∀ {rows : List (List T)} {r : List T}, r ∈ rows → rowBulk r ≤ rowsBulk rows
  | [], _, h => by cases h
  | x :: rows, r, h => by
    rcases List.mem_cons.1 h with rfl | h
    · simp only [rowsBulk]; omega
    · have := rowsBulk_mem h
      simp only [rowsBulk]; omega
theorem fnCheckBundle_ok {m : Nat} (hm : 30000000 ≤ m) (sup lo hi : ByteArray) (no : Int) (prev : ByteArray) (a2 a3 : List (List T)) (h : WtRow esBundle [.i no, .s prev, .l a2, .l a3])
    (hb : sup.size + 1 + (lo.size + 1 + (hi.size + 1 + rowBulk [.i no, .s prev, .l a2, .l a3])) ≤ 1048576) (k : T → An) :
    W_FnExactCheckBundle m (.s sup) (.s lo) (.s hi) (.i no) (.s prev) (.l a2) (.l a3) k = k (.b true) := by
  obtain ⟨m, rfl⟩ : ∃ m', m = m' + 1 := ⟨m - 1, by omega⟩
  have hz := rowSz_le esBundle (by decide) _ h
  simp only [esBundle, List.length_cons, List.length_nil] at hz
  have h2 : ∀ r ∈ a2, WtRow esString r := by
    have h := h
    simp only [esBundle, WtRow, WtT] at h
    obtain ⟨_, _, e, -, _, _, rfl, -, _, _, rfl, ⟨_, rfl, h⟩, -⟩ := h
    cases e
    intro r hr
    simpa only [esString, WtRow, WtT] using h r hr
  have h3 : ∀ r ∈ a3, WtRow esProof r := by
    have h := h
    simp only [esBundle, WtRow, WtT] at h
    obtain ⟨_, _, e, -, _, _, rfl, -, _, _, rfl, -, _, _, rfl, ⟨_, rfl, h⟩, -⟩ := h
    cases e
    intro r hr
    simpa only [esProof, esItem, esString, WtRow, WtT] using h r hr
  have hb' := hb
  simp only [rowBulk, tbulk] at hb'
  have z := szBundle_ok (m := m) (by omega) no prev a2 a3 h2 (by omega) h3 (by omega) 1048576 (by omega) (by omega)
  have t := toBundle_ok (m := m) (by omega) no prev a2 a3 h2 (by omega) h3 (by omega)
  have e := eqBundle_ok (m := m) (by omega) no prev a2 a3 h2 (by omega) h3 (by omega)
  obtain ⟨kw, w2, w3, hw⟩ := markBundle_ok (m := m) (by omega) (.i no) (.s prev) a2 a3 h2 h3 (by omega)
  obtain ⟨roots, hroots, q1, q2, q3⟩ := rows_sr h2
  obtain ⟨ps, hps, hp⟩ := rows_pf h3 (by omega)
  have hsp := fun K => specBundle_ok (m := m) (by omega) sup lo hi no prev roots ps (by omega) (by omega) hp K
  have him := fun K => implBundle_ok (m := m) (by omega) sup lo hi no prev roots ps (by omega) (by omega) hp K
  rw [← hroots, ← hps] at hsp him
  have htwo := bunB_two sup lo hi no prev roots ps
  obtain ⟨g1, hg1⟩ : ∃ g1, g1 = (bunB sup lo hi no prev roots ps).1 := ⟨_, rfl⟩
  obtain ⟨g2, hg2⟩ : ∃ g2, g2 = (bunB sup lo hi no prev roots ps).2 := ⟨_, rfl⟩
  rw [← hg1] at hsp him htwo
  rw [← hg2] at hsp him
  clear hg1 hg2
  have hmp := fun K => markP_ok (m := m) (by omega) g1 htwo.1 (by omega) K
  have hhp := fun K => heldP_ok (m := m) (by omega) g1.length (by omega) K
  have heq := fun K => eqP_ok (m := m) (by omega) g1 (by omega) K
  simp only [W_FnExactCheckBundle, T.str_s, T.rows_l, z, T.int_i, t]
  rw [dec_f (by omega), dec_f (by omega), dec_f (by omega), dec_f (by omega), hsp]
  simp only [T.rows_l, t, T.bool_b]
  rw [him]
  simp only [T.rows_l, heq, T.bool_b, Bool.not_true, beq_self_eq_true, cond_true, cond_false, e, hw, T.int_i]
  rw [cond_t (by simp)]
  simp only [hmp, T.rows_l, hhp, T.int_i]
  rw [dec_f (by omega)]
  simp only [bne_self_eq_false, cond_false]
  rw [him]
  simp only [T.rows_l, heq, T.bool_b, Bool.not_true, beq_self_eq_true, cond_true, cond_false, hhp, T.int_i]
  rw [dec_f (by omega)]
  try simp only [bne_self_eq_false, cond_false]
end Go.Proofs.YtdhldbjjdlnbmaaGreat

