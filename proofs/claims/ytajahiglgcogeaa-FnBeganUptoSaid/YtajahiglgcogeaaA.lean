/- A part of the proof: texts CA, CB, CC, CD, CE, CF, CG, CI, CJ, CK: see the last part's opening words. -/
import Derived.Test.YtajahiglgcogeaaP
set_option linter.unusedVariables false
set_option linter.unusedSimpArgs false
set_option linter.unnecessarySimpa false
namespace Go.Proofs.Ytajahiglgcogeaa
open Go Go.E Go.Proofs
theorem ix_row (pre : List (List T)) (x : List T) (post : List (List T)) : (pre ++ x :: post).getD (Int.toNat (pre.length : Int)) [] = x := by simp [List.getD]
theorem ix_nx {α : Type} (pre : List α) (h : pre.length < 4611686018427387904) : IntKind.i64.wrap ((pre.length : Int) + 1) = (pre.length : Int) + 1 := wrap_i64 (by omega) (by omega)
theorem len_snoc {α : Type} (pre : List α) (x : α) : (((pre ++ [x]).length : Nat) : Int) = (pre.length : Int) + 1 := by simp
theorem set_row (pre : List (List T)) (x y : List T) (post : List (List T)) : (pre ++ x :: post).set (Int.toNat (pre.length : Int)) y = pre ++ y :: post := by simp [List.set_append]
def ir (l : List Int) : List (List T) := l.map iRow
theorem ir_len (l : List Int) : (ir l).length = l.length := by simp [ir]
def BInts (l : List Int) : Prop := l.length ≤ 1048576
structure DOp where
  kind : Int
  key : ByteArray
  val : ByteArray
  deriving Inhabited
def DOp.r (x : DOp) : List T := [.i x.kind, .s x.key, .s x.val]
def BOp (x : DOp) : Prop := x.key.size ≤ 1048576 ∧ x.val.size ≤ 1048576
def BOps (l : List DOp) : Prop := l.length ≤ 1048576 ∧ ∀ x ∈ l, BOp x
structure DJob where
  tx : Int
  ops : List DOp
  state : Int
  yes : List Int
  deriving Inhabited
def DJob.r (x : DJob) : List T := [.i x.tx, .l (x.ops.map DOp.r), .i x.state, .l (ir x.yes)]
def BJob (x : DJob) : Prop := BOps x.ops ∧ BInts x.yes
def BJobs (l : List DJob) : Prop := l.length ≤ 1048576 ∧ ∀ x ∈ l, BJob x
structure DChoice where
  tx : Int
  yes : Bool
  deriving Inhabited
def DChoice.r (x : DChoice) : List T := [.i x.tx, .b x.yes]
def BChoice (x : DChoice) : Prop := True
def BChoices (l : List DChoice) : Prop := l.length ≤ 1048576 ∧ ∀ x ∈ l, BChoice x
structure DWord where
  kind : Int
  shard : Int
  tx : Int
  ops : List DOp
  yes : Bool
  deriving Inhabited
def DWord.r (x : DWord) : List T := [.i x.kind, .i x.shard, .i x.tx, .l (x.ops.map DOp.r), .b x.yes]
def BWord (x : DWord) : Prop := BOps x.ops
def BWords (l : List DWord) : Prop := l.length ≤ 1048576 ∧ ∀ x ∈ l, BWord x

end Go.Proofs.Ytajahiglgcogeaa

namespace Go.Proofs.Ytajahiglgcogeaa
open Go Go.E Go.Proofs
theorem l1In_ok {m : Nat} (hm : 1 ≤ m) (x a b : Int) (k : T → An) : spec_l1In m (.i x) (.i a) (.i b) k = k (.b (decide (a ≤ x ∧ x ≤ b))) := by
  obtain ⟨m, rfl⟩ : ∃ m', m = m' + 1 := ⟨m - 1, by omega⟩
  simp only [spec_l1In, T.int_i]
  by_cases h : a ≤ x
  · rw [cond_t (by simp [h])]; simp [h]
  · rw [cond_f (by simp; omega)]; simp [h]
theorem inRange_ok {m : Nat} (hm : 1 ≤ m) (x a b : Int) (k : T → An) : impl_inRange m (.i x) (.i a) (.i b) k = k (.b (decide (a ≤ x ∧ x ≤ b))) := by
  obtain ⟨m, rfl⟩ : ∃ m', m = m' + 1 := ⟨m - 1, by omega⟩
  simp only [impl_inRange, T.int_i]
  by_cases h : a ≤ x
  · rw [cond_t (by simp [h])]; simp [h]
  · rw [cond_f (by simp; omega)]; simp [h]

def isKeyB (b : UInt8) : Bool := (decide (97 ≤ b.toNat) && decide (b.toNat ≤ 122)) || (decide (48 ≤ b.toNat) && decide (b.toNat ≤ 57))
def plain (s : ByteArray) : Bool := s.data.toList.all isKeyB
def keyOkP (s : ByteArray) : Bool := plain s && decide (1 ≤ s.size ∧ s.size ≤ 12)
theorem ix_byte (pre : List UInt8) (x : UInt8) (post : List UInt8) : (pre ++ x :: post).getD (Int.toNat (pre.length : Int)) 0 = x := by simp [List.getD]
theorem l1In2 {m : Nat} (hm : 1 ≤ m) (x a b : Int) (k : T → An) : spec_l1In m (.i x) (.i a) (.i b) k = k (.b (decide (a ≤ x) && decide (x ≤ b))) := by
  rw [l1In_ok hm, Bool.decide_and]
theorem inRange2 {m : Nat} (hm : 1 ≤ m) (x a b : Int) (k : T → An) : impl_inRange m (.i x) (.i a) (.i b) k = k (.b (decide (a ≤ x) && decide (x ≤ b))) := by
  rw [inRange_ok hm, Bool.decide_and]
theorem isKeyByte_ok {m : Nat} (hm : 1 ≤ m) (b : UInt8) (k : T → An) : impl_isKeyByte m (.i (b.toNat : Int)) k = k (.b (isKeyB b)) := by
  obtain ⟨m, rfl⟩ : ∃ m', m = m' + 1 := ⟨m - 1, by omega⟩
  have e1 : decide ((b.toNat : Int) ≥ 97) = decide (97 ≤ b.toNat) := decide_eq_decide.2 (by omega)
  have e2 : decide ((b.toNat : Int) ≤ 122) = decide (b.toNat ≤ 122) := decide_eq_decide.2 (by omega)
  have e3 : decide ((b.toNat : Int) ≥ 48) = decide (48 ≤ b.toNat) := decide_eq_decide.2 (by omega)
  have e4 : decide ((b.toNat : Int) ≤ 57) = decide (b.toNat ≤ 57) := decide_eq_decide.2 (by omega)
  simp only [impl_isKeyByte, T.int_i, e1, e2, e3, e4, isKeyB]
  cases decide (97 ≤ b.toNat) <;> cases decide (b.toNat ≤ 122) <;> cases decide (48 ≤ b.toNat) <;> rfl
theorem isWord_loop (m : Nat) (hm : 1 ≤ m) (s : ByteArray) (hs : s.size ≤ 4611686018427387904) : ∀ (post pre : List UInt8), s.data.toList = pre ++ post →
    ∀ n, post.length < n → ∀ k0 k1, impl_isWord_L0_0 m n (.s s) (.i pre.length) k0 k1 = cond (post.all isKeyB) k1 (k0 (.b false))
  | [], pre, e, n, hn, k0, k1 => by
    obtain ⟨n, rfl⟩ : ∃ m', n = m' + 1 := ⟨n - 1, by omega⟩
    have hz := ba_size s
    rw [e] at hz
    simp only [impl_isWord_L0_0, T.int_i, T.str_s]
    rw [dec_f (by simp at hz; omega)]
    rfl
  | x :: post, pre, e, n, hn, k0, k1 => by
    obtain ⟨n, rfl⟩ : ∃ m', n = m' + 1 := ⟨n - 1, by omega⟩
    have hz := ba_size s
    rw [e] at hz
    simp only [List.length_append, List.length_cons] at hz hn
    simp only [impl_isWord_L0_0, T.int_i, T.str_s, e, ix_byte, ix_next pre x (by omega)]
    rw [dec_t (by omega), dec_t (by omega), isKeyByte_ok hm]
    have ih := isWord_loop m hm s hs post (pre ++ [x]) (by rw [e]; simp) n (by omega) k0 k1
    cases hx : isKeyB x with
    | true => simpa [hx] using ih
    | false => simp [hx]
theorem isWord_ok {m : Nat} (s : ByteArray) (hs : s.size ≤ 1048576) (hm : 1048580 ≤ m) (k : T → An) : impl_isWord m (.s s) k = k (.b (plain s)) := by
  obtain ⟨m, rfl⟩ : ∃ m', m = m' + 1 := ⟨m - 1, by omega⟩
  have hz := ba_size s
  refine (isWord_loop m (by omega) s (by omega) s.data.toList [] rfl m (by omega) (fun y => k y) (k (.b true))).trans ?_
  unfold plain
  cases s.data.toList.all isKeyB <;> rfl
theorem byteIn {m : Nat} (hm : 1 ≤ m) (x : UInt8) (a b : Int) (k : T → An) : spec_l1In m (.i (IntKind.i64.wrap (x.toNat : Int))) (.i a) (.i b) k = k (.b (decide (a ≤ x.toNat) && decide ((x.toNat : Int) ≤ b))) := by
  have hx := x.toNat_lt
  rw [wrap_i64 (by omega) (by omega), l1In2 hm]
theorem keyOk_loop (m : Nat) (hm : 1 ≤ m) (s : ByteArray) (hs : s.size ≤ 4611686018427387904) : ∀ (post pre : List UInt8), s.data.toList = pre ++ post →
    ∀ n, post.length < n → ∀ k0 k1, spec_KeyOk_L0_0 m n (.s s) (.i pre.length) k0 k1 = cond (post.all isKeyB) (k1 (.s s)) (k0 (.b false))
  | [], pre, e, n, hn, k0, k1 => by
    obtain ⟨n, rfl⟩ : ∃ m', n = m' + 1 := ⟨n - 1, by omega⟩
    have hz := ba_size s
    rw [e] at hz
    simp only [spec_KeyOk_L0_0, T.int_i, T.str_s]
    rw [dec_f (by simp at hz; omega)]
    rfl
  | x :: post, pre, e, n, hn, k0, k1 => by
    obtain ⟨n, rfl⟩ : ∃ m', n = m' + 1 := ⟨n - 1, by omega⟩
    have hz := ba_size s
    rw [e] at hz
    simp only [List.length_append, List.length_cons] at hz hn
    simp only [spec_KeyOk_L0_0, T.int_i, T.str_s, e, ix_byte, ix_next pre x (by omega)]
    rw [dec_t (by omega), dec_t (by omega), byteIn hm, byteIn hm, dec_t (by omega)]
    have ih := keyOk_loop m hm s hs post (pre ++ [x]) (by rw [e]; simp) n (by omega) k0 k1
    have e1 : decide ((97 : Int) ≤ x.toNat) = decide (97 ≤ x.toNat) := decide_eq_decide.2 (by omega)
    have e2 : decide ((x.toNat : Int) ≤ 122) = decide (x.toNat ≤ 122) := decide_eq_decide.2 (by omega)
    have e3 : decide ((48 : Int) ≤ x.toNat) = decide (48 ≤ x.toNat) := decide_eq_decide.2 (by omega)
    have e4 : decide ((x.toNat : Int) ≤ 57) = decide (x.toNat ≤ 57) := decide_eq_decide.2 (by omega)
    simp only [e1, e2, e3, e4, List.all_cons, isKeyB, T.bool_b, ih]
    cases (decide (97 ≤ x.toNat) && decide (x.toNat ≤ 122)) <;> cases (decide (48 ≤ x.toNat) && decide (x.toNat ≤ 57)) <;> rfl
theorem dec_nat12 (n : Nat) : (decide ((1 : Int) ≤ n) && decide ((n : Int) ≤ 12)) = decide (1 ≤ n ∧ n ≤ 12) := by
  rw [Bool.decide_and]
  congr 1 <;> exact decide_eq_decide.2 (by omega)
theorem specKeyOk_ok {m : Nat} (s : ByteArray) (hs : s.size ≤ 1048576) (hm : 1048580 ≤ m) (k : T → An) : spec_KeyOk m (.s s) k = k (.b (keyOkP s)) := by
  obtain ⟨m, rfl⟩ : ∃ m', m = m' + 1 := ⟨m - 1, by omega⟩
  have hz := ba_size s
  refine (keyOk_loop m (by omega) s (by omega) s.data.toList [] rfl m (by omega) _ _).trans ?_
  simp only [T.str_s, keyOkP, plain]
  rw [l1In2 (by omega), dec_nat12]
  cases s.data.toList.all isKeyB <;> rfl
theorem implKeyOk_ok {m : Nat} (s : ByteArray) (hs : s.size ≤ 1048576) (hm : 1048581 ≤ m) (k : T → An) : impl_KeyOk m (.s s) k = k (.b (keyOkP s)) := by
  obtain ⟨m, rfl⟩ : ∃ m', m = m' + 1 := ⟨m - 1, by omega⟩
  simp only [impl_KeyOk, T.str_s, keyOkP]
  rw [inRange2 (by omega), dec_nat12, isWord_ok s hs (by omega)]
  cases decide (1 ≤ s.size ∧ s.size ≤ 12) <;> cases plain s <;> rfl
def blt (a b : ByteArray) : Bool := Op.bytesLess a.toList b.toList
theorem bl_tri : ∀ a b : List UInt8, (Op.bytesLess a b || a == b) = !Op.bytesLess b a
  | [], [] => rfl
  | [], y :: b => rfl
  | x :: a, [] => rfl
  | x :: a, y :: b => by
    have ih := bl_tri a b
    simp only [Op.bytesLess, List.cons_beq_cons]
    rcases Nat.lt_trichotomy x.toNat y.toNat with h | h | h
    · have h1 : x < y := UInt8.lt_iff_toNat_lt.2 h
      have h2 : ¬ y < x := fun h' => by have := UInt8.lt_iff_toNat_lt.1 h'; omega
      have h3 : (x == y) = false := by simp; intro e; subst e; omega
      have h4 : (y == x) = false := by simp; intro e; subst e; omega
      simp [h1, h2, h3, h4]
    · obtain rfl : x = y := UInt8.toNat_inj.1 h
      have h2 : ¬ x < x := fun h' => by have := UInt8.lt_iff_toNat_lt.1 h'; omega
      simp only [h2, decide_false, Bool.false_or, beq_self_eq_true, Bool.true_and, ih]
    · have h1 : ¬ x < y := fun h' => by have := UInt8.lt_iff_toNat_lt.1 h'; omega
      have h2 : y < x := UInt8.lt_iff_toNat_lt.2 h
      have h3 : (x == y) = false := by simp; intro e; subst e; omega
      simp [h1, h2, h3]
end Go.Proofs.Ytajahiglgcogeaa

namespace Go.Proofs.Ytajahiglgcogeaa
open Go Go.E Go.Proofs
def hashN (h : Nat) : List UInt8 → Nat
  | [] => h
  | b :: r => hashN (((h ^^^ b.toNat) * 16777619) % 4294967296) r
theorem wrap_u32 (x : Nat) : IntKind.u32.wrap (x : Int) = ((x % 4294967296 : Nat) : Int) := by
  have e32 : (2 : Int) ^ 32 = 4294967296 := by decide
  simp only [IntKind.wrap, IntKind.bits, IntKind.signed, Bool.false_and, Bool.false_eq_true, if_false, e32]
  omega
theorem ofInt_nat (w x : Nat) : BitVec.ofInt w (x : Int) = BitVec.ofNat w x := by simp
theorem xor_lt32 {a b : Nat} (ha : a < 4294967296) (hb : b < 4294967296) : a ^^^ b < 4294967296 := Nat.xor_lt_two_pow (n := 32) ha hb
theorem step32 (h : Nat) (hh : h < 4294967296) (b : UInt8) :
    IntKind.u32.wrap ((bvBack .u32 (BitVec.ofInt IntKind.u32.bits (h : Int) ^^^ BitVec.ofInt IntKind.u32.bits (IntKind.u32.wrap (b.toNat : Int)))).int * 16777619) = ((((h ^^^ b.toNat) * 16777619) % 4294967296 : Nat) : Int) := by
  have hb := b.toNat_lt
  have e1 : b.toNat % 4294967296 = b.toNat := Nat.mod_eq_of_lt (by omega)
  have hx := xor_lt32 hh (show b.toNat < 4294967296 by omega)
  simp only [bvBack, T.int_i, wrap_u32, e1, ofInt_nat]
  have e2 : (BitVec.ofNat IntKind.u32.bits h ^^^ BitVec.ofNat IntKind.u32.bits b.toNat).toNat = h ^^^ b.toNat := by
    rw [BitVec.toNat_xor, BitVec.toNat_ofNat, BitVec.toNat_ofNat]
    show (h % 2 ^ 32) ^^^ (b.toNat % 2 ^ 32) = _
    rw [Nat.mod_eq_of_lt (by simpa using hh), Nat.mod_eq_of_lt (by omega)]
  rw [e2, Nat.mod_eq_of_lt hx, show (((h ^^^ b.toNat : Nat) : Int) * 16777619) = (((h ^^^ b.toNat) * 16777619 : Nat) : Int) by rw [Int.natCast_mul]; rfl, wrap_u32]
theorem step64 (h : Nat) (hh : h < 4294967296) (b : UInt8) :
    bvBack .i64 (BitVec.ofInt IntKind.i64.bits (IntKind.i64.wrap ((bvBack .i64 (BitVec.ofInt IntKind.i64.bits (h : Int) ^^^ BitVec.ofInt IntKind.i64.bits (IntKind.i64.wrap (b.toNat : Int)))).int * 16777619)) &&& BitVec.ofInt IntKind.i64.bits 4294967295) =
      .i ((((h ^^^ b.toNat) * 16777619) % 4294967296 : Nat) : Int) := by
  have hb := b.toNat_lt
  have hx := xor_lt32 hh (show b.toNat < 4294967296 by omega)
  rw [wrap_i64 (x := (b.toNat : Int)) (by omega) (by omega)]
  have e2 : (BitVec.ofInt IntKind.i64.bits (h : Int) ^^^ BitVec.ofInt IntKind.i64.bits (b.toNat : Int)).toNat = h ^^^ b.toNat := by
    rw [ofInt_nat, ofInt_nat, BitVec.toNat_xor, BitVec.toNat_ofNat, BitVec.toNat_ofNat]
    show (h % 2 ^ 64) ^^^ (b.toNat % 2 ^ 64) = _
    rw [Nat.mod_eq_of_lt (by omega), Nat.mod_eq_of_lt (by omega)]
  simp only [bvBack, T.int_i, e2]
  rw [wrap_i64 (x := ((h ^^^ b.toNat : Nat) : Int)) (by omega) (by omega), show (((h ^^^ b.toNat : Nat) : Int) * 16777619) = (((h ^^^ b.toNat) * 16777619 : Nat) : Int) by rw [Int.natCast_mul]; rfl,
    wrap_i64 (x := (((h ^^^ b.toNat) * 16777619 : Nat) : Int)) (by omega) (by omega)]
  have e3 : (BitVec.ofInt IntKind.i64.bits (((h ^^^ b.toNat) * 16777619 : Nat) : Int) &&& BitVec.ofInt IntKind.i64.bits 4294967295).toNat = ((h ^^^ b.toNat) * 16777619) % 4294967296 := by
    rw [ofInt_nat, show (4294967295 : Int) = ((4294967295 : Nat) : Int) from rfl, ofInt_nat, BitVec.toNat_and, BitVec.toNat_ofNat, BitVec.toNat_ofNat]
    show (((h ^^^ b.toNat) * 16777619) % 2 ^ 64) &&& (4294967295 % 2 ^ 64) = _
    rw [Nat.mod_eq_of_lt (by omega)]
    exact Nat.and_two_pow_sub_one_eq_mod _ 32
  rw [e3]
  rw [wrap_i64 (by omega) (by omega)]
theorem implHash_loop (m : Nat) (s : ByteArray) (hs : s.size ≤ 4611686018427387904) : ∀ (post pre : List UInt8) (h : Nat), h < 4294967296 → s.data.toList = pre ++ post → ∀ n, post.length < n → ∀ k0,
    impl_Hash_L0_0 m n (.s s) (.i h) (.i pre.length) k0 = k0 (.i (hashN h post : Nat))
  | [], pre, h, hh, e, n, hn, k0 => by
    obtain ⟨n, rfl⟩ : ∃ m', n = m' + 1 := ⟨n - 1, by omega⟩
    have hz := ba_size s
    rw [e] at hz
    simp only [impl_Hash_L0_0, T.int_i, T.str_s]
    rw [dec_f (by simp at hz; omega)]
    rfl
  | x :: post, pre, h, hh, e, n, hn, k0 => by
    obtain ⟨n, rfl⟩ : ∃ m', n = m' + 1 := ⟨n - 1, by omega⟩
    have hz := ba_size s
    rw [e] at hz
    simp only [List.length_append, List.length_cons] at hz hn
    simp only [impl_Hash_L0_0, T.int_i, T.str_s, e, ix_byte, ix_nx pre (by omega), step32 h hh x]
    rw [dec_t (by omega), dec_t (by omega)]
    have ih := implHash_loop m s hs post (pre ++ [x]) _ (Nat.mod_lt ((h ^^^ x.toNat) * 16777619) (by omega)) (by rw [e]; simp) n (by omega) k0
    rw [len_snoc] at ih
    exact ih
theorem specHash_loop (m : Nat) (s : ByteArray) (hs : s.size ≤ 4611686018427387904) : ∀ (post pre : List UInt8) (h : Nat), h < 4294967296 → s.data.toList = pre ++ post → ∀ n, post.length < n → ∀ k0,
    spec_Hash_L0_0 m n (.s s) (.i h) (.i pre.length) k0 = k0 (.i (hashN h post : Nat))
  | [], pre, h, hh, e, n, hn, k0 => by
    obtain ⟨n, rfl⟩ : ∃ m', n = m' + 1 := ⟨n - 1, by omega⟩
    have hz := ba_size s
    rw [e] at hz
    simp only [spec_Hash_L0_0, T.int_i, T.str_s]
    rw [dec_f (by simp at hz; omega)]
    rfl
  | x :: post, pre, h, hh, e, n, hn, k0 => by
    obtain ⟨n, rfl⟩ : ∃ m', n = m' + 1 := ⟨n - 1, by omega⟩
    have hz := ba_size s
    rw [e] at hz
    simp only [List.length_append, List.length_cons] at hz hn
    simp only [spec_Hash_L0_0, T.int_i, T.str_s, e, ix_byte, ix_nx pre (by omega), step64 h hh x]
    rw [dec_t (by omega), dec_t (by omega)]
    have ih := specHash_loop m s hs post (pre ++ [x]) _ (Nat.mod_lt ((h ^^^ x.toNat) * 16777619) (by omega)) (by rw [e]; simp) n (by omega) k0
    rw [len_snoc] at ih
    exact ih
theorem hashN_lt : ∀ (l : List UInt8) (h : Nat), h < 4294967296 → hashN h l < 4294967296
  | [], h, hh => hh
  | b :: r, h, hh => hashN_lt r _ (Nat.mod_lt _ (by omega))
def hashP (s : ByteArray) : Nat := hashN 2166136261 s.data.toList
theorem hashP_lt (s : ByteArray) : hashP s < 4294967296 := hashN_lt _ _ (by omega)
theorem implHash_ok {m : Nat} (s : ByteArray) (hs : s.size ≤ 1048576) (hm : 1048580 ≤ m) (k : T → An) : impl_Hash m (.s s) k = k (.i (hashP s : Nat)) := by
  obtain ⟨m, rfl⟩ : ∃ m', m = m' + 1 := ⟨m - 1, by omega⟩
  have hz := ba_size s
  have hl := hashP_lt s
  refine (implHash_loop m s (by omega) s.data.toList [] 2166136261 (by omega) rfl m (by omega) _).trans ?_
  rw [T.int_i]
  exact congrArg (fun x => k (T.i x)) (wrap_i64 (x := (hashP s : Nat)) (by omega) (by omega))
theorem specHash_ok {m : Nat} (s : ByteArray) (hs : s.size ≤ 1048576) (hm : 1048580 ≤ m) (k : T → An) : spec_Hash m (.s s) k = k (.i (hashP s : Nat)) := by
  obtain ⟨m, rfl⟩ : ∃ m', m = m' + 1 := ⟨m - 1, by omega⟩
  have hz := ba_size s
  exact specHash_loop m s (by omega) s.data.toList [] 2166136261 (by omega) rfl m (by omega) _
/-- ShardOf -/
def shardP (s : ByteArray) (n : Int) : Nat := if n < 1 then 0 else hashP s % n.toNat
theorem shardP_lt (s : ByteArray) (n : Int) : shardP s n < 4294967296 := by
  unfold shardP
  split
  · omega
  · exact Nat.lt_of_le_of_lt (Nat.mod_le _ _) (hashP_lt s)
theorem implShard_ok {m : Nat} (s : ByteArray) (n : Int) (hs : s.size ≤ 1048576) (hm : 1048585 ≤ m) (k : T → An) : impl_ShardOf m (.s s) (.i n) k = k (.i (shardP s n : Nat)) := by
  obtain ⟨m, rfl⟩ : ∃ m', m = m' + 1 := ⟨m - 1, by omega⟩
  simp only [impl_ShardOf, T.int_i]
  unfold shardP
  by_cases h : n < 1
  · rw [dec_t h, if_pos h]; rfl
  · obtain ⟨j, rfl⟩ : ∃ j : Nat, n = j := ⟨n.toNat, by omega⟩
    rw [dec_f h, implHash_ok s hs (by omega), if_neg h, cond_t (by simp; omega)]
    rw [T.int_i, ← Int.ofNat_tmod]; rfl
theorem specShard_ok {m : Nat} (s : ByteArray) (n : Int) (hs : s.size ≤ 1048576) (hm : 1048585 ≤ m) (k : T → An) : spec_ShardOf m (.s s) (.i n) k = k (.i (shardP s n : Nat)) := by
  obtain ⟨m, rfl⟩ : ∃ m', m = m' + 1 := ⟨m - 1, by omega⟩
  simp only [spec_ShardOf, T.int_i]
  unfold shardP
  by_cases h : n < 1
  · rw [dec_t h, if_pos h]; rfl
  · obtain ⟨j, rfl⟩ : ∃ j : Nat, n = j := ⟨n.toNat, by omega⟩
    rw [dec_f h, specHash_ok s hs (by omega), if_neg h, cond_t (by simp; omega)]
    rw [T.int_i, ← Int.ofNat_tmod]; rfl
end Go.Proofs.Ytajahiglgcogeaa

namespace Go.Proofs.Ytajahiglgcogeaa
open Go Go.E Go.Proofs
/-! lists of numbers in order, each once -/
theorem sorted_ext : ∀ {l l' : List Int}, l.Pairwise (· < ·) → l'.Pairwise (· < ·) → (∀ x, x ∈ l ↔ x ∈ l') → l = l'
  | [], [], _, _, _ => rfl
  | [], b :: l', _, _, h => by have := (h b).2 (by simp); cases this
  | a :: l, [], _, _, h => by have := (h a).1 (by simp); cases this
  | a :: l, b :: l', h1, h2, h => by
    rw [List.pairwise_cons] at h1 h2
    have hab : a = b := by
      have ha := (h a).1 (by simp)
      have hb := (h b).2 (by simp)
      rcases List.mem_cons.1 ha with e | ha
      · exact e
      · rcases List.mem_cons.1 hb with e | hb
        · exact e.symm
        · have := h1.1 b hb; have := h2.1 a ha; omega
    subst hab
    congr 1
    refine sorted_ext h1.2 h2.2 fun x => ⟨fun hx => ?_, fun hx => ?_⟩
    · rcases List.mem_cons.1 ((h x).1 (List.mem_cons_of_mem _ hx)) with e | hx'
      · subst e; have := h1.1 x hx; omega
      · exact hx'
    · rcases List.mem_cons.1 ((h x).2 (List.mem_cons_of_mem _ hx)) with e | hx'
      · subst e; have := h2.1 x hx; omega
      · exact hx'
/-- where a number goes: 'r': what is ahead, the last first -/
def putS (n : Int) : List Int → List Int → List Int
  | [], s => n :: s
  | p :: r, s => if p > n then putS n r (p :: s) else (p :: r).reverse ++ n :: s
theorem putS_mem (n x : Int) : ∀ (r s : List Int), x ∈ putS n r s ↔ x = n ∨ x ∈ r ∨ x ∈ s
  | [], s => by simp [putS]
  | p :: r, s => by
    unfold putS
    split
    · rw [putS_mem n x r (p :: s)]; simp only [List.mem_cons]; grind
    · simp only [List.mem_append, List.mem_reverse, List.mem_cons]; grind
theorem putS_sorted (n : Int) : ∀ (r s : List Int), (r.reverse ++ s).Pairwise (· < ·) → n ∉ r → (∀ x ∈ s, n < x) → (putS n r s).Pairwise (· < ·)
  | [], s, h, _, hs => by
    simp only [putS, List.pairwise_cons]
    exact ⟨hs, by simpa using h⟩
  | p :: r, s, h, hn, hs => by
    simp only [List.mem_cons, not_or] at hn
    unfold putS
    split
    · rename_i hp
      refine putS_sorted n r (p :: s) (by simpa using h) hn.2 fun x hx => ?_
      rcases List.mem_cons.1 hx with rfl | hx
      · exact hp
      · exact hs x hx
    · rename_i hp
      rw [List.pairwise_append] at h ⊢
      have h0 := h.1
      rw [List.reverse_cons, List.pairwise_append] at h0
      refine ⟨h.1, List.pairwise_cons.2 ⟨hs, h.2.1⟩, fun a ha b hb => ?_⟩
      have hpn : p < n := by omega
      have hap : a ≤ p := by
        rw [List.reverse_cons, List.mem_append] at ha
        rcases ha with ha | ha
        · have := h0.2.2 a ha p (by simp); omega
        · have : a = p := by simpa using ha
          omega
      rcases List.mem_cons.1 hb with rfl | hb
      · omega
      · have := hs b hb; omega
def putU (l : List Int) (n : Int) : List Int := if n ∈ l then l else putS n l.reverse []
theorem putU_mem (l : List Int) (n x : Int) : x ∈ putU l n ↔ x = n ∨ x ∈ l := by
  unfold putU
  split
  · grind
  · rw [putS_mem]; simp
theorem putU_sorted (l : List Int) (n : Int) (h : l.Pairwise (· < ·)) : (putU l n).Pairwise (· < ·) := by
  unfold putU
  split
  · exact h
  · exact putS_sorted n _ _ (by simpa using h) (by simpa using ‹_›) (fun x h => (nomatch h))
def foldU : List Int → List Int → List Int
  | acc, [] => acc
  | acc, x :: xs => foldU (putU acc x) xs
theorem foldU_mem (y : Int) : ∀ (xs acc : List Int), y ∈ foldU acc xs ↔ y ∈ acc ∨ y ∈ xs
  | [], acc => by simp [foldU]
  | x :: xs, acc => by
    simp only [foldU]
    rw [foldU_mem y xs, putU_mem]; simp only [List.mem_cons]; grind
theorem foldU_sorted : ∀ (xs acc : List Int), acc.Pairwise (· < ·) → (foldU acc xs).Pairwise (· < ·)
  | [], acc, h => h
  | x :: xs, acc, h => foldU_sorted xs _ (putU_sorted acc x h)
theorem putS_len (n : Int) : ∀ (r s : List Int), (putS n r s).length = r.length + s.length + 1
  | [], s => by simp [putS]
  | p :: r, s => by
    unfold putS
    split
    · rw [putS_len n r (p :: s)]; simp; omega
    · simp; omega
theorem putU_len (l : List Int) (n : Int) : (putU l n).length ≤ l.length + 1 := by
  unfold putU
  split
  · omega
  · rw [putS_len]; simp
theorem foldU_len : ∀ (xs acc : List Int), (foldU acc xs).length ≤ acc.length + xs.length
  | [], acc => by simp [foldU]
  | x :: xs, acc => by
    have := foldU_len xs (putU acc x)
    have := putU_len acc x
    simp only [foldU, List.length_cons]; omega
/-- what Compact leaves of a list in order -/
theorem compact_go (d : Array Int) (hs : ∀ i j, i ≤ j → j < d.size → d[i]! ≤ d[j]!) : ∀ m, m ≤ d.size → (Lib.compactUpTo d m).Pairwise (· < ·) ∧ (∀ x, x ∈ Lib.compactUpTo d m ↔ ∃ j, j < m ∧ d[j]! = x)
  | 0, _ => by simp [Lib.compactUpTo]
  | m + 1, hm => by
    obtain ⟨h1, h2⟩ := compact_go d hs m (by omega)
    rw [Lib.compactUpTo_succ]
    cases hk : Lib.keeps d m with
    | true =>
      simp only [if_true]
      refine ⟨List.pairwise_append.2 ⟨h1, by simp, fun a ha b hb => ?_⟩, fun x => ?_⟩
      · have : b = d[m]! := by simpa using hb
        subst this
        obtain ⟨j, hj, rfl⟩ := (h2 a).1 ha
        have hk := of_decide_eq_true hk
        have e1 := hs j (m - 1) (by omega) (by omega)
        have e2 := hs (m - 1) m (by omega) (by omega)
        have e3 : d[m]! ≠ d[m - 1]! := hk.resolve_left (by omega)
        omega
      · rw [List.mem_append, h2]
        constructor
        · rintro (⟨j, hj, e⟩ | e)
          · exact ⟨j, by omega, e⟩
          · exact ⟨m, by omega, (List.mem_singleton.1 e).symm⟩
        · rintro ⟨j, hj, e⟩
          by_cases h : j = m
          · subst h; right; simp [e]
          · left; exact ⟨j, by omega, e⟩
    | false =>
      have hk := of_decide_eq_false hk
      simp only [not_or, Decidable.not_not] at hk
      simp only [Bool.false_eq_true, if_false, List.append_nil]
      refine ⟨h1, fun x => ?_⟩
      rw [h2]
      constructor
      · rintro ⟨j, hj, e⟩; exact ⟨j, by omega, e⟩
      · rintro ⟨j, hj, e⟩
        by_cases h : j = m
        · subst h; exact ⟨j - 1, by omega, by rw [← hk.2]; exact e⟩
        · exact ⟨j, by omega, e⟩
theorem shards_eq (xs : List Int) : Lib.compact (xs.mergeSort fun x y => decide (x ≤ y)) = foldU [] xs := by
  have hp := List.pairwise_mergeSort (le := fun x y : Int => decide (x ≤ y)) (by intro a b c h1 h2; simp at *; omega) (by intro a b; simp; omega) xs
  have hperm := List.mergeSort_perm xs fun x y => decide (x ≤ y)
  obtain ⟨h1, h2⟩ := compact_go (xs.mergeSort fun x y => decide (x ≤ y)).toArray (fun i j hij hj => by
    simp only [List.size_toArray] at hj
    rw [getElem!_pos _ i (by simp only [List.size_toArray]; omega), getElem!_pos _ j (by simp only [List.size_toArray]; omega)]
    by_cases h : i = j
    · subst h; omega
    · have := List.pairwise_iff_getElem.1 hp i j (by omega) hj (by omega)
      simpa using this) (xs.mergeSort fun x y => decide (x ≤ y)).length (by simp)
  refine sorted_ext h1 (foldU_sorted xs [] (by simp)) fun x => ?_
  show x ∈ Lib.compactUpTo _ _ ↔ _
  rw [h2, foldU_mem]
  simp only [List.not_mem_nil, false_or]
  rw [← hperm.mem_iff (a := x)]
  constructor
  · rintro ⟨j, hj, e⟩
    rw [getElem!_pos _ j (by simpa using hj)] at e
    rw [← e]; simp
  · intro hx
    obtain ⟨j, hj, e⟩ := List.mem_iff_getElem.1 hx
    exact ⟨j, hj, by rw [getElem!_pos _ j (by simpa using hj)]; simpa using e⟩
end Go.Proofs.Ytajahiglgcogeaa

namespace Go.Proofs.Ytajahiglgcogeaa
open Go Go.E Go.Proofs
/-! the functions on lists of numbers -/
theorem ir_app (a b : List Int) : ir (a ++ b) = ir a ++ ir b := by simp [ir]
theorem ir_cons (x : Int) (b : List Int) : ir (x :: b) = iRow x :: ir b := rfl
theorem ir_one (x : Int) : [[T.i x]] = ir [x] := rfl
theorem has_loop (m : Nat) (x : Int) : ∀ (post pre : List Int), pre.length + post.length ≤ 4611686018427387 → ∀ n, post.length < n → ∀ k0 k1,
    spec_l7Has_L0_0 m n (.l (ir (pre ++ post))) (.i x) (.i pre.length) k0 k1 = cond (decide (x ∈ post)) (k0 (.b true)) k1
  | [], pre, hs, n, hn, k0, k1 => by
    obtain ⟨n, rfl⟩ : ∃ m', n = m' + 1 := ⟨n - 1, by omega⟩
    simp only [spec_l7Has_L0_0, T.int_i, T.rows_l]
    rw [dec_f (by simp [ir_len]), dec_f (by simp)]
  | y :: post, pre, hs, n, hn, k0, k1 => by
    obtain ⟨n, rfl⟩ : ∃ m', n = m' + 1 := ⟨n - 1, by omega⟩
    simp only [List.length_cons] at hs hn
    have ih := has_loop m x post (pre ++ [y]) (by simp; omega) n (by omega) k0 k1
    have e1 : (ir (pre ++ y :: post)).getD (Int.toNat (pre.length : Int)) [] = iRow y := by
      have := ix_row (ir pre) (iRow y) (ir post)
      rw [ir_len] at this
      rw [ir_app, ir_cons]; exact this
    simp only [spec_l7Has_L0_0, T.int_i, T.rows_l, e1, ix_nx pre (by omega)]
    rw [dec_t (by simp [ir_len]; omega), dec_t (by simp [ir_len]; omega)]
    simp only [List.append_assoc, List.cons_append, List.nil_append, len_snoc] at ih
    simp only [iRow, List.getD_cons_zero, T.int_i]
    by_cases h : y = x
    · subst h
      rw [cond_t (by simp), dec_t (by simp)]
    · rw [cond_f (beq_eq_false_iff_ne.2 h), ih]
      by_cases h2 : x ∈ post
      · rw [dec_t h2, dec_t (by simp [h2])]
      · rw [dec_f h2, dec_f (by simp [h2, Ne.symm h])]
theorem has_ok {m : Nat} (l : List Int) (x : Int) (hl : l.length ≤ 1048576) (hm : 1048580 ≤ m) (k : T → An) : spec_l7Has m (.l (ir l)) (.i x) k = k (.b (decide (x ∈ l))) := by
  obtain ⟨m, rfl⟩ : ∃ m', m = m' + 1 := ⟨m - 1, by omega⟩
  refine (has_loop m x l [] (by simp; omega) m (by omega) _ _).trans ?_
  by_cases h : x ∈ l
  · rw [dec_t h, decide_eq_true h]
  · rw [dec_f h, decide_eq_false h]
theorem mid_get (a : List Int) (x : Int) (b : List (List T)) : (ir a ++ iRow x :: b).getD a.length [] = iRow x := by
  rw [← ir_len a]; simp [List.getD]
theorem mid_set (a : List Int) (x : List T) (y : List T) (b : List (List T)) : (ir a ++ x :: b).set a.length y = ir a ++ y :: b := by
  rw [← ir_len a]; simp [List.set_append]
def putEnd (k : T → An) : T → T → T → An := fun y1 y2 y3 => cond (decide ((0 : Int) ≤ y2.int ∧ y2.int < (y3.rows.length : Int)))
    (cond (decide ((Int.toNat y2.int) < y3.rows.length))
    (k (T.l (y3.rows.set (Int.toNat y2.int) ((y3.rows.getD (Int.toNat y2.int) []).set 0 y1))))
    (.bad))
    (.bad)
theorem putEnd_ok (k : T → An) (a : List Int) (x z : Int) (s : List Int) : putEnd k (.i x) (.i a.length) (.l (ir a ++ iRow z :: ir s)) = k (.l (ir (a ++ x :: s))) := by
  simp only [putEnd, T.int_i, T.rows_l, Int.toNat_natCast]
  rw [dec_t (by simp [ir_len]; omega), dec_t (by simp [ir_len]), mid_get, mid_set, ir_app, ir_cons]
  rfl
theorem put_loop (m : Nat) (x : Int) (k : T → An) : ∀ (r s : List Int) (z : Int), r.length + s.length ≤ 4611686018427387 → ∀ n, r.length < n →
    spec_l7Put_L0_0 m n (.i x) (.i r.length) (.l (ir r.reverse ++ iRow z :: ir s)) (putEnd k) = k (.l (ir (putS x r s)))
  | [], s, z, hs, n, hn => by
    obtain ⟨n, rfl⟩ : ∃ m', n = m' + 1 := ⟨n - 1, by omega⟩
    simp only [spec_l7Put_L0_0, jn, T.int_i, T.rows_l, List.length_nil, List.reverse_nil]
    rw [cond_f (by simp)]
    exact putEnd_ok k [] x z s
  | p :: r, s, z, hs, n, hn => by
    obtain ⟨n, rfl⟩ : ∃ m', n = m' + 1 := ⟨n - 1, by omega⟩
    simp only [List.length_cons] at hs hn
    have ih := put_loop m x k r (p :: s) p (by simp; omega) n (by omega)
    have e0 : IntKind.i64.wrap (((r.length + 1 : Nat) : Int) - 1) = (r.length : Int) := by rw [wrap_i64 (by omega) (by omega)]; omega
    have e1 : ir (p :: r).reverse ++ iRow z :: ir s = ir r.reverse ++ iRow p :: iRow z :: ir s := by
      rw [List.reverse_cons, ir_app]; simp [ir]
    have e2 : (ir r.reverse ++ iRow p :: iRow z :: ir s).getD r.length [] = iRow p := by
      have := mid_get r.reverse p (iRow z :: ir s)
      rwa [List.length_reverse] at this
    have e4 : (ir r.reverse ++ iRow p :: iRow z :: ir s).getD (r.length + 1) [] = iRow z := by
      have := mid_get (r.reverse ++ [p]) z (ir s)
      rw [ir_app] at this
      simpa [ir] using this
    have e5 : (ir r.reverse ++ iRow p :: iRow z :: ir s).set (r.length + 1) (iRow p) = ir r.reverse ++ iRow p :: ir (p :: s) := by
      have := mid_set (r.reverse ++ [p]) (iRow z) (iRow p) (ir s)
      rw [ir_app] at this
      simpa [ir] using this
    have e6 : (ir r.reverse ++ iRow p :: iRow z :: ir s).length = r.length + s.length + 2 := by simp [ir_len]; omega
    simp only [spec_l7Put_L0_0, jn, T.int_i, T.rows_l, List.length_cons, e0, e1, Int.toNat_natCast, e2, e4, e6]
    rw [cond_t (by simp), dec_t (by omega), dec_t (by omega)]
    have e7 : ((iRow p).getD 0 dflt).int = p := rfl
    have e8 : (iRow z).set 0 ((iRow p).getD 0 dflt) = iRow p := rfl
    rw [e7, e8]
    unfold putS
    by_cases hp : p > x
    · rw [dec_t hp, dec_t (by omega), dec_t (by omega), dec_t (by omega), dec_t (by omega), e5, if_pos hp]
      exact ih
    · rw [dec_f hp, if_neg hp, ← e1]
      have := putEnd_ok k (p :: r).reverse x z s
      rw [List.length_reverse, List.length_cons] at this
      exact this
theorem put_ok {m : Nat} (l : List Int) (x : Int) (hl : l.length ≤ 1048576) (hm : 1048600 ≤ m) (k : T → An) : spec_l7Put m (.l (ir l)) (.i x) k = k (.l (ir (putU l x))) := by
  obtain ⟨m, rfl⟩ : ∃ m', m = m' + 1 := ⟨m - 1, by omega⟩
  simp only [spec_l7Put, T.rows_l, ir_len]
  rw [has_ok l x hl (by omega)]
  simp only [T.bool_b]
  unfold putU
  by_cases h : x ∈ l
  · rw [dec_t h, if_pos h]
  · rw [dec_f h, if_neg h, dec_t (by unfold maxRow; omega), dec_t (by unfold maxRow; omega)]
    have e1 : IntKind.i64.wrap (((ir l ++ [[T.i x]]).length : Nat) - 1 : Int) = (l.reverse.length : Int) := by
      rw [wrap_i64 (by first | (simp [ir_len]; done) | (simp [ir_len]; omega)) (by first | (simp [ir_len]; done) | (simp [ir_len]; omega))]; simp [ir_len]
    rw [e1]
    have := put_loop m x k l.reverse [] x (by simp; omega) m (by simp; omega)
    rw [List.reverse_reverse] at this
    exact this
/-! shards of operations -/
def opsSh (ops : List (List T)) (n : Int) : List Int := ops.map fun r => ((shardP (r.getD 1 dflt).str n : Nat) : Int)
def OpRow (r : List T) : Prop := ∃ (a : Int) (x y : ByteArray), r = [.i a, .s x, .s y] ∧ x.size ≤ 1048576
theorem specSh_loop (m : Nat) (hm : 1048700 ≤ m) (x1 : Int) (k1 : T → An) : ∀ (post pre : List (List T)) (acc : List Int), (∀ r ∈ post, OpRow r) → acc.length + post.length ≤ 1048576 → pre.length + post.length ≤ 1048576 → ∀ n, post.length < n → ∀ k0,
    spec_ShardsOf_L0_1 m n (.l (pre ++ post)) (.i x1) (.l (ir acc)) (.i pre.length) k0 k1 = k0 (.l (ir (foldU acc (opsSh post x1))))
  | [], pre, acc, _, hs, hs2, n, hn, k0 => by
    obtain ⟨n, rfl⟩ : ∃ m', n = m' + 1 := ⟨n - 1, by omega⟩
    simp only [spec_ShardsOf_L0_1, T.int_i, T.rows_l]
    rw [dec_f (by simp)]
    rfl
  | x :: post, pre, acc, ho, hs, hs2, n, hn, k0 => by
    obtain ⟨n, rfl⟩ : ∃ m', n = m' + 1 := ⟨n - 1, by omega⟩
    simp only [List.length_cons] at hs hs2 hn
    obtain ⟨a, key, val, rfl, hk⟩ := ho x (by simp)
    have hpl := putU_len acc ((shardP key x1 : Nat) : Int)
    have ih := specSh_loop m hm x1 k1 post (pre ++ [[.i a, .s key, .s val]]) (putU acc ((shardP key x1 : Nat) : Int)) (fun r hr => ho r (by simp [hr])) (by omega) (by simp; omega) n (by omega) k0
    simp only [spec_ShardsOf_L0_1, T.int_i, T.rows_l, ix_row, ix_nx pre (by omega), List.drop_succ_cons, List.drop_zero, List.getD_cons_zero]
    rw [dec_t (by simp; omega), dec_t (by simp; omega), specShard_ok key x1 hk (by omega), put_ok acc _ (by omega) (by omega)]
    simp only [List.append_assoc, List.cons_append, List.nil_append, len_snoc] at ih
    simp only [T.rows_l]
    exact ih
theorem specSh_ok {m : Nat} (ops : List (List T)) (n : Int) (ho : ∀ r ∈ ops, OpRow r) (hl : ops.length ≤ 1048576) (hm : 1048710 ≤ m) (k : T → An) : spec_ShardsOf m (.l ops) (.i n) k = k (.l (ir (foldU [] (opsSh ops n)))) := by
  obtain ⟨m, rfl⟩ : ∃ m', m = m' + 1 := ⟨m - 1, by omega⟩
  obtain ⟨m', rfl⟩ : ∃ m', m = m' + 1 := ⟨m - 1, by omega⟩
  simp only [spec_ShardsOf, T.rows_l]
  cases ops with
  | nil =>
    simp only [spec_ShardsOf_L0_0, T.int_i, T.rows_l]
    rw [dec_f (by simp)]
    rfl
  | cons x post =>
    simp only [List.length_cons] at hl
    obtain ⟨a, key, val, rfl, hk⟩ := ho x (by simp)
    have hpl := putU_len [] ((shardP key n : Nat) : Int)
    simp only [List.length_nil] at hpl
    have e := specSh_loop (m' + 1) (by omega) n (fun y5 => k (T.l y5.rows)) post [[.i a, .s key, .s val]] (putU [] ((shardP key n : Nat) : Int)) (fun r hr => ho r (by simp [hr])) (by omega) (by simp; omega) m' (by omega) (fun y4 => k (T.l y4.rows))
    simp only [spec_ShardsOf_L0_0, T.int_i, T.rows_l, List.length_cons]
    rw [dec_t (by omega), dec_t (by omega)]
    have e1 : ([.i a, .s key, .s val] :: post).getD (Int.toNat 0) [] = [.i a, .s key, .s val] := rfl
    rw [e1]
    simp only [List.drop_succ_cons, List.drop_zero, List.getD_cons_zero]
    rw [specShard_ok key n hk (by omega)]
    have e2 := put_ok (m := m' + 1) [] ((shardP key n : Nat) : Int) (by simp) (by omega)
    have e3 : (T.l [] : T) = .l (ir []) := rfl
    rw [e3, e2]
    simp only [T.rows_l]
    have e4 : IntKind.i64.wrap (0 + 1) = (([[T.i a, .s key, .s val]].length : Nat) : Int) := (by decide : IntKind.i64.wrap (0 + 1) = ((1 : Nat) : Int))
    rw [e4]
    exact e
theorem implSh_loop (m : Nat) (hm : 1048700 ≤ m) (x0 : Int) : ∀ (post pre : List (List T)) (acc : List Int), (∀ r ∈ post, OpRow r) → acc.length + post.length ≤ 1048576 → pre.length + post.length ≤ 1048576 → ∀ n, post.length < n → ∀ k0,
    impl_ShardsOf_L0_0 m n (.i x0) (.l (pre ++ post)) (.i (pre ++ post).length) (.i pre.length) (.l (ir acc)) k0 = k0 (.l (ir (acc ++ opsSh post x0)))
  | [], pre, acc, _, hs, hs2, n, hn, k0 => by
    obtain ⟨n, rfl⟩ : ∃ m', n = m' + 1 := ⟨n - 1, by omega⟩
    simp only [impl_ShardsOf_L0_0, T.int_i, T.rows_l]
    rw [dec_f (by simp)]
    simp [opsSh]
  | x :: post, pre, acc, ho, hs, hs2, n, hn, k0 => by
    obtain ⟨n, rfl⟩ : ∃ m', n = m' + 1 := ⟨n - 1, by omega⟩
    simp only [List.length_cons] at hs hs2 hn
    obtain ⟨a, key, val, rfl, hk⟩ := ho x (by simp)
    have ih := implSh_loop m hm x0 post (pre ++ [[.i a, .s key, .s val]]) (acc ++ [((shardP key x0 : Nat) : Int)]) (fun r hr => ho r (by simp [hr])) (by simp; omega) (by simp; omega) n (by omega) k0
    simp only [impl_ShardsOf_L0_0, T.int_i, T.rows_l, ix_row, ix_nx pre (by omega), List.getD_cons_succ, List.getD_cons_zero]
    rw [dec_t (by simp; omega), dec_t (by simp; omega), implShard_ok key x0 hk (by omega), dec_t (by rw [ir_len]; unfold maxRow; omega)]
    simp only [List.append_assoc, List.cons_append, List.nil_append, len_snoc] at ih
    rw [ir_one, ← ir_app]
    exact ih
theorem implSh_ok {m : Nat} (ops : List (List T)) (n : Int) (ho : ∀ r ∈ ops, OpRow r) (hl : ops.length ≤ 1048576) (hm : 1048710 ≤ m) (k : T → An) : impl_ShardsOf m (.l ops) (.i n) k = k (.l (ir (foldU [] (opsSh ops n)))) := by
  obtain ⟨m, rfl⟩ : ∃ m', m = m' + 1 := ⟨m - 1, by omega⟩
  simp only [impl_ShardsOf, T.rows_l]
  refine (implSh_loop m (by omega) n ops [] [] ho (by simp; omega) (by simp; omega) m (by omega) _).trans ?_
  obtain ⟨m, rfl⟩ : ∃ m', m = m' + 1 := ⟨m - 1, by omega⟩
  simp only [List.nil_append, T.rows_l, slices_Sort, slices_Compact, slices_Clip___int_int_]
  have e1 : sortRows (ir (opsSh ops n)) = ir ((opsSh ops n).mergeSort fun x y => decide (x ≤ y)) := sortRows_i _
  have e2 : compactRows (ir ((opsSh ops n).mergeSort fun x y => decide (x ≤ y))) = ir (foldU [] (opsSh ops n)) := (compactRows_i _).trans (congrArg (List.map iRow) (shards_eq _))
  rw [e1, e2, dec_t (by omega), dec_t (by omega), Int.toNat_natCast, List.take_length]
end Go.Proofs.Ytajahiglgcogeaa

namespace Go.Proofs.Ytajahiglgcogeaa
open Go Go.E Go.Proofs
/-! orders, typed -/
abbrev rO (l : List DOp) : List (List T) := l.map DOp.r
theorem rO_len (l : List DOp) : (rO l).length = l.length := by simp
def shardsP (ops : List DOp) (n : Int) : List Int := foldU [] (ops.map fun o => ((shardP o.key n : Nat) : Int))
theorem opsSh_t (ops : List DOp) (n : Int) : opsSh (rO ops) n = ops.map fun o => ((shardP o.key n : Nat) : Int) := by
  unfold opsSh; rw [List.map_map]; rfl
theorem BOps.rows {l : List DOp} (h : BOps l) : ∀ r ∈ rO l, OpRow r := fun r hr => by
  obtain ⟨o, ho, rfl⟩ := List.mem_map.1 hr
  exact ⟨o.kind, o.key, o.val, rfl, (h.2 o ho).1⟩
theorem specShards {m : Nat} (hm : 1048710 ≤ m) (ops : List DOp) (n : Int) (h : BOps ops) (k : T → An) : spec_ShardsOf m (.l (rO ops)) (.i n) k = k (.l (ir (shardsP ops n))) := by
  rw [specSh_ok (rO ops) n h.rows (by rw [rO_len]; exact h.1) hm, opsSh_t]; rfl
theorem implShards {m : Nat} (hm : 1048710 ≤ m) (ops : List DOp) (n : Int) (h : BOps ops) (k : T → An) : impl_ShardsOf m (.l (rO ops)) (.i n) k = k (.l (ir (shardsP ops n))) := by
  rw [implSh_ok (rO ops) n h.rows (by rw [rO_len]; exact h.1) hm, opsSh_t]; rfl
theorem ixO (pre : List DOp) (x : DOp) (post : List DOp) : (rO (pre ++ x :: post)).getD (Int.toNat (pre.length : Int)) [] = x.r := by simp [List.getD]
theorem ixO1 (pre : List DOp) (q x : DOp) (post : List DOp) : (rO (pre ++ q :: x :: post)).getD (Int.toNat (pre.length : Int)) [] = q.r := by simp [List.getD]
theorem o0 (x : DOp) : x.r.getD 0 dflt = .i x.kind := rfl
theorem o1 (x : DOp) : x.r.getD 1 dflt = .s x.key := rfl
theorem o2 (x : DOp) : x.r.getD 2 dflt = .s x.val := rfl
theorem od1 (x : DOp) : (x.r.drop 1).getD 0 dflt = .s x.key := rfl
theorem o_eta (x : DOp) : [T.i x.kind, T.s x.key, T.s x.val] = x.r := rfl
/-! which are right -/
def emp : ByteArray := ⟨#[]⟩
theorem emp_size {s : ByteArray} (h : (s.toList == emp.toList) = true) : s.size = 0 := by
  have h1 : s.toList = emp.toList := by simpa using h
  have h2 : s.data.toList = emp.data.toList := by rw [ByteArray.toList_eq, ByteArray.toList_eq] at h1; exact h1
  rw [ba_size, h2]; rfl
def opOkP (o : DOp) : Bool := if o.kind = 1 ∨ o.kind = 3 then keyOkP o.key && decide (o.val.size ≤ 20) else if o.kind = 2 then keyOkP o.key && (o.val.toList == emp.toList) else false
theorem specOp_ok {m : Nat} (hm : 1048590 ≤ m) (o : DOp) (ho : BOp o) (k : T → An) : spec_l7Op m (.i o.kind) (.s o.key) (.s o.val) k = k (.b (opOkP o)) := by
  obtain ⟨m, rfl⟩ : ∃ m', m = m' + 1 := ⟨m - 1, by omega⟩
  have e20 : decide ((o.val.size : Int) ≤ 20) = decide (o.val.size ≤ 20) := decide_eq_decide.2 (by omega)
  simp only [spec_l7Op, T.int_i, T.str_s, show (⟨#[]⟩ : ByteArray) = emp from rfl]
  rw [l1In_ok (by omega)]
  simp only [T.bool_b]
  unfold opOkP
  by_cases h1 : o.kind = 1 ∨ o.kind = 3
  · rw [if_pos h1, decide_eq_true (by omega), cond_t (by rfl), cond_f (by simp; omega), specKeyOk_ok o.key ho.1 (by omega)]
    simp only [T.bool_b, e20]
    cases keyOkP o.key <;> rfl
  · rw [if_neg h1]
    by_cases h2 : o.kind = 2
    · rw [if_pos h2, decide_eq_true (by omega), cond_t (by rfl), cond_t (by simp [h2])]
      cases he : o.val.toList == emp.toList with
      | false => simp
      | true =>
        have := emp_size he
        simp only [Bool.not_true, cond_false]
        rw [specKeyOk_ok o.key ho.1 (by omega)]
        simp only [T.bool_b, e20, this]
        cases keyOkP o.key <;> rfl
    · rw [if_neg h2, decide_eq_false (by omega)]
      rfl
theorem implOp_ok {m : Nat} (hm : 1048590 ≤ m) (o : DOp) (ho : BOp o) (k : T → An) : impl_opOk m (.i o.kind) (.s o.key) (.s o.val) k = k (.b (opOkP o)) := by
  obtain ⟨m, rfl⟩ : ∃ m', m = m' + 1 := ⟨m - 1, by omega⟩
  have e20 : decide ((o.val.size : Int) ≤ 20) = decide (o.val.size ≤ 20) := decide_eq_decide.2 (by omega)
  simp only [impl_opOk, jn1, T.int_i, T.str_s, show (⟨#[]⟩ : ByteArray) = emp from rfl]
  have e1 : (cond (o.kind == 1) (T.b (o.kind == 1)) (T.b (o.kind == 3))) = T.b (decide (o.kind = 1 ∨ o.kind = 3)) := by
    by_cases h1 : o.kind = 1
    · simp [h1]
    · have : (o.kind == 1) = false := by simp [h1]
      rw [this, cond_false]
      congr 1
      by_cases h3 : o.kind = 3 <;> simp [h1, h3]
  rw [e1]
  simp only [T.bool_b]
  unfold opOkP
  by_cases h1 : o.kind = 1 ∨ o.kind = 3
  · rw [if_pos h1, decide_eq_true h1, cond_true, implKeyOk_ok o.key ho.1 (by omega)]
    simp only [T.bool_b, e20]
    cases keyOkP o.key <;> rfl
  · rw [if_neg h1, decide_eq_false h1, cond_false]
    by_cases h2 : o.kind = 2
    · rw [if_pos h2, cond_t (by simp [h2]), implKeyOk_ok o.key ho.1 (by omega)]
      simp only [T.bool_b]
      cases keyOkP o.key <;> rfl
    · rw [if_neg h2, cond_f (by simp [h2])]
def opsGo : Option DOp → List DOp → Bool
  | _, [] => true
  | q, p :: ps => opOkP p && (match q with | none => true | some q => blt q.key p.key) && opsGo (some p) ps
def opsOkP (l : List DOp) : Bool := opsGo none l && decide (1 ≤ l.length ∧ l.length ≤ 8)
theorem blt_not (a b : ByteArray) : (!(Op.bytesLess a.toList b.toList)) = (Op.bytesLess b.toList a.toList || b.toList == a.toList) := (bl_tri b.toList a.toList).symm
theorem specOps_loop (m : Nat) (hm : 1048590 ≤ m) : ∀ (post pre : List DOp), (∀ p ∈ post, BOp p) → pre.length + post.length ≤ 1048576 → ∀ n, post.length < n → ∀ k0 k1,
    spec_OpsOk_L0_0 m n (.l (rO (pre ++ post))) (.i pre.length) k0 k1 = cond (opsGo pre.getLast? post) (k1 (.l (rO (pre ++ post)))) (k0 (.b false))
  | [], pre, ho, hs, n, hn, k0, k1 => by
    obtain ⟨n, rfl⟩ : ∃ m', n = m' + 1 := ⟨n - 1, by omega⟩
    simp only [spec_OpsOk_L0_0, T.int_i, T.rows_l]
    rw [dec_f (by simp)]
    rfl
  | x :: post, pre, ho, hs, n, hn, k0, k1 => by
    obtain ⟨n, rfl⟩ : ∃ m', n = m' + 1 := ⟨n - 1, by omega⟩
    simp only [List.length_cons] at hs hn
    have ih := specOps_loop m hm post (pre ++ [x]) (fun p hp => ho p (by simp [hp])) (by simp; omega) n (by omega) k0 k1
    rw [len_snoc, List.append_assoc, List.singleton_append, List.getLast?_concat] at ih
    simp only [spec_OpsOk_L0_0, T.int_i, T.rows_l, ixO, ix_nx pre (by omega), o0, o1, o2, od1]
    rw [dec_t (by simp; omega), dec_t (by simp; omega), specOp_ok (by omega) x (ho x (by simp))]
    simp only [opsGo, T.bool_b]
    cases h : opOkP x with
    | false => rfl
    | true =>
      rcases List.eq_nil_or_concat pre with rfl | ⟨pre, q, rfl⟩
      · simpa using ih
      · simp only [List.concat_eq_append] at hs ih ⊢
        simp only [List.length_append, List.length_singleton, List.length_cons, List.length_nil] at hs
        have e : IntKind.i64.wrap (((pre ++ [q]).length : Int) - 1) = (pre.length : Int) := by rw [wrap_i64 (by omega) (by simp; omega)]; simp
        simp only [e, List.append_assoc, List.singleton_append, ixO1, od1, T.str_s, List.getLast?_concat]
        rw [cond_t (by rfl : ((!true) == false) = true), cond_t (by simp <;> omega), dec_t (by simp <;> omega), dec_t (by simp <;> omega)]
        simp only [List.append_assoc, List.singleton_append] at ih
        unfold blt
        cases hb : Op.bytesLess q.key.toList x.key.toList with
        | false => rfl
        | true => simpa using ih
theorem implOps_loop (m : Nat) (hm : 1048590 ≤ m) : ∀ (post pre : List DOp), (∀ p ∈ post, BOp p) → pre.length + post.length ≤ 1048576 → ∀ n, post.length < n → ∀ k0 k1,
    impl_OpsOk_L0_0 m n (.l (rO (pre ++ post))) (.l (rO (pre ++ post))) (.i ((pre ++ post).length : Nat)) (.i pre.length) k0 k1 = cond (opsGo pre.getLast? post) (k1 (.l (rO (pre ++ post)))) (k0 (.b false))
  | [], pre, ho, hs, n, hn, k0, k1 => by
    obtain ⟨n, rfl⟩ : ∃ m', n = m' + 1 := ⟨n - 1, by omega⟩
    simp only [impl_OpsOk_L0_0, T.int_i, T.rows_l]
    rw [dec_f (by simp)]
    rfl
  | x :: post, pre, ho, hs, n, hn, k0, k1 => by
    obtain ⟨n, rfl⟩ : ∃ m', n = m' + 1 := ⟨n - 1, by omega⟩
    simp only [List.length_cons] at hs hn
    have ih := implOps_loop m hm post (pre ++ [x]) (fun p hp => ho p (by simp [hp])) (by simp; omega) n (by omega) k0 k1
    rw [len_snoc, List.append_assoc, List.singleton_append, List.getLast?_concat] at ih
    simp only [impl_OpsOk_L0_0, T.int_i, T.rows_l, ixO, ix_nx pre (by omega), o0, o1, o2, od1]
    rw [dec_t (by simp; omega), dec_t (by simp; omega), implOp_ok (by omega) x (ho x (by simp))]
    simp only [opsGo, T.bool_b]
    cases h : opOkP x with
    | false => rfl
    | true =>
      rcases List.eq_nil_or_concat pre with rfl | ⟨pre, q, rfl⟩
      · simpa using ih
      · simp only [List.concat_eq_append] at hs ih ⊢
        simp only [List.length_append, List.length_singleton, List.length_cons, List.length_nil] at hs
        have e : IntKind.i64.wrap (((pre ++ [q]).length : Int) - 1) = (pre.length : Int) := by rw [wrap_i64 (by omega) (by simp; omega)]; simp
        simp only [e, List.append_assoc, List.singleton_append, ixO1, od1, T.str_s, List.getLast?_concat]
        rw [cond_t (by rfl : ((!true) == false) = true), cond_t (by simp <;> omega), dec_t (by simp <;> omega), ← blt_not]
        simp only [List.append_assoc, List.singleton_append] at ih
        unfold blt
        cases hb : Op.bytesLess q.key.toList x.key.toList with
        | false => rfl
        | true => simpa using ih
theorem len8 (l : List DOp) : decide ((1 : Int) ≤ (l.length : Int) ∧ (l.length : Int) ≤ 8) = decide (1 ≤ l.length ∧ l.length ≤ 8) := decide_eq_decide.2 (by omega)
theorem specOps_ok {m : Nat} (hm : 1048600 ≤ m) (l : List DOp) (h : BOps l) (K : T → An) : spec_OpsOk m (.l (rO l)) K = K (.b (opsOkP l)) := by
  obtain ⟨m, rfl⟩ : ∃ m', m = m' + 1 := ⟨m - 1, by omega⟩
  have hl := h.1
  simp only [spec_OpsOk, T.rows_l]
  refine (specOps_loop m (by omega) l [] h.2 (by simpa using hl) m (by omega) _ _).trans ?_
  simp only [List.nil_append, List.getLast?_nil, T.rows_l, rO_len, opsOkP]
  rw [l1In_ok (by omega), len8]
  cases opsGo none l <;> rfl
theorem implOps_ok {m : Nat} (hm : 1048600 ≤ m) (l : List DOp) (h : BOps l) (K : T → An) : impl_OpsOk m (.l (rO l)) K = K (.b (opsOkP l)) := by
  obtain ⟨m, rfl⟩ : ∃ m', m = m' + 1 := ⟨m - 1, by omega⟩
  have hl := h.1
  simp only [impl_OpsOk, T.rows_l, rO_len]
  refine (implOps_loop m (by omega) l [] h.2 (by simpa using hl) m (by omega) _ _).trans ?_
  simp only [List.nil_append, List.getLast?_nil, T.rows_l, rO_len, opsOkP]
  rw [inRange_ok (by omega), len8]
  cases opsGo none l <;> rfl
/-! those of a shard -/
def opsFor (l : List DOp) (s n : Int) : List DOp := l.filter fun o => ((shardP o.key n : Nat) : Int) == s
theorem specFor_loop (m : Nat) (hm : 1048600 ≤ m) (s N : Int) : ∀ (post pre acc : List DOp), (∀ p ∈ post, BOp p) → pre.length + post.length ≤ 1048576 → acc.length + post.length ≤ 1048576 → ∀ n, post.length < n → ∀ k0,
    spec_OpsFor_L0_0 m n (.l (rO (pre ++ post))) (.i s) (.i N) (.i pre.length) (.l (rO acc)) k0 = k0 (.l (rO (acc ++ opsFor post s N)))
  | [], pre, acc, ho, hs, ha, n, hn, k0 => by
    obtain ⟨n, rfl⟩ : ∃ m', n = m' + 1 := ⟨n - 1, by omega⟩
    simp only [spec_OpsFor_L0_0, T.int_i, T.rows_l]
    rw [dec_f (by simp)]
    simp [opsFor]
  | x :: post, pre, acc, ho, hs, ha, n, hn, k0 => by
    obtain ⟨n, rfl⟩ : ∃ m', n = m' + 1 := ⟨n - 1, by omega⟩
    simp only [List.length_cons] at hs hn ha
    have hx := ho x (by simp)
    have ih := fun acc ha => specFor_loop m hm s N post (pre ++ [x]) acc (fun p hp => ho p (by simp [hp])) (by simp; omega) ha n (by omega) k0
    rw [len_snoc, List.append_assoc, List.singleton_append] at ih
    simp only [spec_OpsFor_L0_0, T.int_i, T.rows_l, ixO, ix_nx pre (by omega), o0, o1, o2, od1, o_eta]
    rw [dec_t (by simp; omega), dec_t (by simp; omega), specShard_ok x.key N hx.1 (by omega)]
    simp only [T.int_i]
    unfold opsFor
    cases h : (((shardP x.key N : Nat) : Int) == s) with
    | false =>
      rw [cond_false, ih acc (by omega), List.filter_cons_of_neg (by simpa using h)]; rfl
    | true =>
      rw [cond_true, dec_t (by simp; omega), dec_t (by rw [rO_len]; unfold maxRow; omega)]
      have e : rO acc ++ [x.r] = rO (acc ++ [x]) := by simp
      rw [e, ih (acc ++ [x]) (by simp; omega), List.filter_cons_of_pos (by simpa using h), List.append_assoc]; rfl
theorem implFor_loop (m : Nat) (hm : 1048600 ≤ m) (s N : Int) : ∀ (post pre acc : List DOp), (∀ p ∈ post, BOp p) → pre.length + post.length ≤ 1048576 → acc.length + post.length ≤ 1048576 → ∀ n, post.length < n → ∀ k0,
    impl_OpsFor_L0_0 m n (.i s) (.i N) (.l (rO (pre ++ post))) (.i ((pre ++ post).length : Nat)) (.i pre.length) (.l (rO acc)) k0 = k0 (.l (rO (acc ++ opsFor post s N)))
  | [], pre, acc, ho, hs, ha, n, hn, k0 => by
    obtain ⟨n, rfl⟩ : ∃ m', n = m' + 1 := ⟨n - 1, by omega⟩
    simp only [impl_OpsFor_L0_0, T.int_i, T.rows_l]
    rw [dec_f (by simp)]
    simp [opsFor]
  | x :: post, pre, acc, ho, hs, ha, n, hn, k0 => by
    obtain ⟨n, rfl⟩ : ∃ m', n = m' + 1 := ⟨n - 1, by omega⟩
    simp only [List.length_cons] at hs hn ha
    have hx := ho x (by simp)
    have ih := fun acc ha => implFor_loop m hm s N post (pre ++ [x]) acc (fun p hp => ho p (by simp [hp])) (by simp; omega) ha n (by omega) k0
    rw [len_snoc, List.append_assoc, List.singleton_append] at ih
    simp only [impl_OpsFor_L0_0, T.int_i, T.rows_l, ixO, ix_nx pre (by omega), o0, o1, o2, od1, o_eta]
    rw [dec_t (by simp; omega), dec_t (by simp; omega), implShard_ok x.key N hx.1 (by omega)]
    simp only [T.int_i]
    unfold opsFor
    cases h : (((shardP x.key N : Nat) : Int) == s) with
    | false =>
      rw [cond_false, ih acc (by omega), List.filter_cons_of_neg (by simpa using h)]; rfl
    | true =>
      rw [cond_true, dec_t (by rw [rO_len]; unfold maxRow; omega)]
      have e : rO acc ++ [x.r] = rO (acc ++ [x]) := by simp
      rw [e, ih (acc ++ [x]) (by simp; omega), List.filter_cons_of_pos (by simpa using h), List.append_assoc]; rfl
theorem specFor_ok {m : Nat} (hm : 1048610 ≤ m) (l : List DOp) (s N : Int) (h : BOps l) (K : T → An) : spec_OpsFor m (.l (rO l)) (.i s) (.i N) K = K (.l (rO (opsFor l s N))) := by
  obtain ⟨m, rfl⟩ : ∃ m', m = m' + 1 := ⟨m - 1, by omega⟩
  have hl := h.1
  simp only [spec_OpsFor, T.rows_l]
  exact (specFor_loop m (by omega) s N l [] [] h.2 (by simpa using hl) (by simpa using hl) m (by omega) _).trans rfl
theorem implFor_ok {m : Nat} (hm : 1048610 ≤ m) (l : List DOp) (s N : Int) (h : BOps l) (K : T → An) : impl_OpsFor m (.l (rO l)) (.i s) (.i N) K = K (.l (rO (opsFor l s N))) := by
  obtain ⟨m, rfl⟩ : ∃ m', m = m' + 1 := ⟨m - 1, by omega⟩
  have hl := h.1
  simp only [impl_OpsFor, T.rows_l, rO_len]
  exact (implFor_loop m (by omega) s N l [] [] h.2 (by simpa using hl) (by simpa using hl) m (by omega) _).trans rfl
end Go.Proofs.Ytajahiglgcogeaa

namespace Go.Proofs.Ytajahiglgcogeaa
open Go Go.E Go.Proofs
abbrev rC (l : List DChoice) : List (List T) := l.map DChoice.r
abbrev rJ (l : List DJob) : List (List T) := l.map DJob.r
theorem rC_len (l : List DChoice) : (rC l).length = l.length := by simp
theorem rJ_len (l : List DJob) : (rJ l).length = l.length := by simp
theorem pz : (T.i (((T.i 0).int.toNat : Nat) : Int)) = T.i 0 := rfl
def chIx (tx : Int) : List DChoice → Option Nat
  | [] => none
  | x :: l => if x.tx = tx then some 0 else (chIx tx l).map (· + 1)
theorem chIx_lt {tx : Int} : ∀ {l : List DChoice} {j : Nat}, chIx tx l = some j → j < l.length
  | [], j, h => by simp [chIx] at h
  | x :: l, j, h => by
    unfold chIx at h
    split at h
    · cases h; simp
    · cases hf : chIx tx l with
      | none => rw [hf] at h; cases h
      | some i => rw [hf] at h; cases h; have := chIx_lt hf; simp; omega
def chI (tx : Int) (l : List DChoice) : Int := match chIx tx l with | some j => (j : Int) | none => -1
theorem ixC (pre : List DChoice) (x : DChoice) (post : List DChoice) : (rC (pre ++ x :: post)).getD (Int.toNat (pre.length : Int)) [] = x.r := by simp [List.getD]
theorem c0 (x : DChoice) : x.r.getD 0 dflt = .i x.tx := rfl
theorem c1 (x : DChoice) : x.r.getD 1 dflt = .b x.yes := rfl
theorem cGet (l : List DChoice) {k : Nat} (h : k < l.length) : (((rC l).getD k []).drop 1).getD 0 dflt = .b (l.getD k default).yes := by
  simp [List.getD, h, DChoice.r]
theorem chosen_loop (m : Nat) (tx : Int) (x3 x4 x5 x6 x8 : T) : ∀ (post pre : List DChoice), pre.length + post.length ≤ 1048576 → ∀ n, post.length < n → ∀ k0 k1,
    spec_l11Chosen_L0_0 m n (.i tx) (.i 0) (.i pre.length) x3 x4 x5 x6 (.l (rC (pre ++ post))) x8 k0 k1 = (match chIx tx post with | some j => k0 (.i ((pre.length + j : Nat) : Int)) | none => k1)
  | [], pre, hs, n, hn, k0, k1 => by
    obtain ⟨n, rfl⟩ : ∃ m', n = m' + 1 := ⟨n - 1, by omega⟩
    simp only [spec_l11Chosen_L0_0, T.int_i, T.rows_l]
    rw [dec_f (by simp)]
    rfl
  | x :: post, pre, hs, n, hn, k0, k1 => by
    obtain ⟨n, rfl⟩ : ∃ m', n = m' + 1 := ⟨n - 1, by omega⟩
    simp only [List.length_cons] at hs hn
    have ih := chosen_loop m tx x3 x4 x5 x6 x8 post (pre ++ [x]) (by simp; omega) n (by omega) k0 k1
    rw [len_snoc, List.append_assoc, List.singleton_append] at ih
    simp only [spec_l11Chosen_L0_0, T.int_i, T.rows_l, ixC, ix_nx pre (by omega), c0]
    rw [dec_t (by simp; omega), dec_t (by simp; omega)]
    unfold chIx
    by_cases h : x.tx = tx
    · rw [cond_t (by simp [h]), if_pos h]; rfl
    · rw [cond_f (by simp [h]), if_neg h]
      refine Eq.trans ih ?_
      cases chIx tx post with
      | none => rfl
      | some j => simp only [Option.map_some]; congr 3; simp; omega
theorem specChosen {m : Nat} (hm : 1048590 ≤ m) (x0 x1 x2 x5 : T) (jobs : List (List T)) (log : List DChoice) (tx : Int) (hl : log.length ≤ 1048576) (K : T → An) :
    spec_l11Chosen m x0 x1 x2 (.l jobs) (.l (rC log)) x5 (.i tx) K = K (.i (chI tx log)) := by
  obtain ⟨m, rfl⟩ : ∃ m', m = m' + 1 := ⟨m - 1, by omega⟩
  simp only [spec_l11Chosen, T.rows_l]
  refine (chosen_loop m tx x0 x1 x2 _ _ log [] (by simp; omega) m (by omega) _ _).trans ?_
  unfold chI
  cases chIx tx log <;> simp
theorem index_loop (m : Nat) (hm : 1 ≤ m) (tx : Int) : ∀ (post pre : List DChoice), pre.length + post.length ≤ 1048576 → ∀ n, post.length < n → ∀ k0 k1,
    slices_IndexFunc___impl_Choice_impl_Choice__L0_0 m n (.l (rC (pre ++ post))) (.l [[.i tx]]) (.i ((pre ++ post).length : Nat)) (.i pre.length) k0 k1 = (match chIx tx post with | some j => k0 (.i ((pre.length + j : Nat) : Int)) | none => k1)
  | [], pre, hs, n, hn, k0, k1 => by
    obtain ⟨n, rfl⟩ : ∃ m', n = m' + 1 := ⟨n - 1, by omega⟩
    simp only [slices_IndexFunc___impl_Choice_impl_Choice__L0_0, T.int_i, T.rows_l]
    rw [dec_f (by simp)]
    rfl
  | x :: post, pre, hs, n, hn, k0, k1 => by
    obtain ⟨n, rfl⟩ : ∃ m', n = m' + 1 := ⟨n - 1, by omega⟩
    obtain ⟨m, rfl⟩ : ∃ m', m = m' + 1 := ⟨m - 1, by omega⟩
    simp only [List.length_cons] at hs hn
    have ih := index_loop (m + 1) hm tx post (pre ++ [x]) (by simp; omega) n (by omega) k0 k1
    rw [len_snoc, List.append_assoc, List.singleton_append] at ih
    have r1 : row1 (.l [[T.i tx]]) = [T.i tx] := rfl
    simp only [slices_IndexFunc___impl_Choice_impl_Choice__L0_0, impl_Coord_choiceAt_1, T.int_i, T.rows_l, ixC, ix_nx pre (by omega), r1, List.getD_cons_zero, T.bool_b, c0]
    rw [dec_t (by simp; omega), dec_t (by simp; omega)]
    unfold chIx
    by_cases h : x.tx = tx
    · rw [cond_t (by simp [h]), if_pos h]; rfl
    · rw [cond_f (by simp [h]), if_neg h]
      refine Eq.trans ih ?_
      cases chIx tx post with
      | none => rfl
      | some j => simp only [Option.map_some]; congr 3; simp; omega
theorem implChoice {m : Nat} (hm : 1048600 ≤ m) (x0 x1 x2 x5 : T) (jobs : T) (log : List DChoice) (tx : Int) (hl : log.length ≤ 1048576) (K : T → An) :
    impl_Coord_choiceAt m (.l [[x0, x1, x2, jobs, .l (rC log), x5]]) (.i tx) K = K (.i (chI tx log)) := by
  obtain ⟨m, rfl⟩ : ∃ m', m = m' + 1 := ⟨m - 1, by omega⟩
  obtain ⟨m, rfl⟩ : ∃ m', m = m' + 1 := ⟨m - 1, by omega⟩
  have r1 : row1 (.l [[x0, x1, x2, jobs, .l (rC log), x5]]) = [x0, x1, x2, jobs, .l (rC log), x5] := rfl
  have r2 : row1 (.l [[T.i tx]]) = [T.i tx] := rfl
  simp only [impl_Coord_choiceAt, slices_IndexFunc___impl_Choice_impl_Choice_, r1, r2, List.drop_succ_cons, List.drop_zero, List.getD_cons_zero, T.rows_l, rC_len]
  refine (index_loop m (by omega) tx log [] (by simp; omega) m (by omega) _ _).trans ?_
  unfold chI
  cases chIx tx log <;> simp
/-! who said yes -/
def yesGo (sh : List Int) : Option Int → List Int → Bool
  | _, [] => true
  | p, y :: ys => decide (y ∈ sh) && (match p with | none => true | some q => decide (q < y)) && yesGo sh (some y) ys
theorem ixI (pre : List Int) (x : Int) (post : List Int) : ((ir (pre ++ x :: post)).getD (Int.toNat (pre.length : Int)) []).getD 0 dflt = .i x := by
  simp [ir, List.getD, iRow]
theorem ixI1 (pre : List Int) (q x : Int) (post : List Int) : ((ir (pre ++ q :: x :: post)).getD (Int.toNat (pre.length : Int)) []).getD 0 dflt = .i q := by
  simp [ir, List.getD, iRow]
theorem specYes (m : Nat) (hm : 1048600 ≤ m) (sh : List Int) (hsh : sh.length ≤ 1048576) (x4 x5 x6 x7 x8 x9 x10 x11 x12 : T) : ∀ (post pre : List Int), pre.length + post.length ≤ 1048576 → ∀ n, post.length < n → ∀ k0 k1,
    spec_l11Job_L0_0 m n (.i 0) (.i 0) (.l (ir sh)) (.i pre.length) x4 x5 x6 x7 x8 x9 x10 x11 x12 (.l (ir (pre ++ post))) k0 k1 =
      cond (yesGo sh pre.getLast? post) (k1 (.i 0) (.i 0) x4 x5 x6 x7 x8 x9 x10 x11 x12 (.l (ir (pre ++ post)))) (k0 (.b false))
  | [], pre, hs, n, hn, k0, k1 => by
    obtain ⟨n, rfl⟩ : ∃ m', n = m' + 1 := ⟨n - 1, by omega⟩
    simp only [spec_l11Job_L0_0, T.int_i, T.rows_l]
    rw [dec_f (by simp [ir_len])]
    rfl
  | x :: post, pre, hs, n, hn, k0, k1 => by
    obtain ⟨n, rfl⟩ : ∃ m', n = m' + 1 := ⟨n - 1, by omega⟩
    simp only [List.length_cons] at hs hn
    have ih := specYes m hm sh hsh x4 x5 x6 x7 x8 x9 x10 x11 x12 post (pre ++ [x]) (by simp; omega) n (by omega) k0 k1
    rw [len_snoc, List.append_assoc, List.singleton_append, List.getLast?_concat] at ih
    simp only [spec_l11Job_L0_0, jn, T.int_i, T.rows_l, ixI, ix_nx pre (by omega)]
    rw [dec_t (by simp [ir_len]; omega), dec_t (by simp [ir_len]; omega), has_ok sh x hsh (by omega)]
    simp only [yesGo, T.bool_b]
    by_cases h : x ∈ sh
    · rw [decide_eq_true h, cond_t (by rfl)]
      rcases List.eq_nil_or_concat pre with rfl | ⟨pre, q, rfl⟩
      · simpa using ih
      · simp only [List.concat_eq_append] at hs ih ⊢
        simp only [List.length_append, List.length_singleton, List.length_cons, List.length_nil] at hs
        have e : IntKind.i64.wrap (((pre ++ [q]).length : Int) - 1) = (pre.length : Int) := by rw [wrap_i64 (by omega) (by simp; omega)]; simp
        simp only [e, List.append_assoc, List.singleton_append, ixI1, T.int_i, List.getLast?_concat]
        rw [cond_t (by simp <;> omega), dec_t (by simp [ir_len] <;> omega), dec_t (by simp [ir_len] <;> omega)]
        simp only [List.append_assoc, List.singleton_append] at ih
        by_cases hq : q < x
        · rw [dec_f (by omega), decide_eq_true hq]; simpa using ih
        · rw [dec_t (by omega), decide_eq_false hq]; rfl
    · rw [decide_eq_false h]; rfl
end Go.Proofs.Ytajahiglgcogeaa

namespace Go.Proofs.Ytajahiglgcogeaa
open Go Go.E Go.Proofs
theorem idx_loop (m : Nat) (x : Int) : ∀ (post pre : List Int), pre.length + post.length ≤ 1048576 → ∀ n, post.length < n → ∀ k0 k1 (K : An), (∀ j : Nat, k0 (.i (j : Int)) = K) →
    slices_Index___int_int__L0_0 m n (.l (ir (pre ++ post))) (.i x) (.i ((pre ++ post).length : Nat)) (.i pre.length) k0 k1 = cond (decide (x ∈ post)) K k1
  | [], pre, hs, n, hn, k0, k1, K, hK => by
    obtain ⟨n, rfl⟩ : ∃ m', n = m' + 1 := ⟨n - 1, by omega⟩
    simp only [slices_Index___int_int__L0_0, T.int_i, T.rows_l]
    rw [dec_f (by simp), dec_f (by simp)]
  | y :: post, pre, hs, n, hn, k0, k1, K, hK => by
    obtain ⟨n, rfl⟩ : ∃ m', n = m' + 1 := ⟨n - 1, by omega⟩
    simp only [List.length_cons] at hs hn
    have ih := idx_loop m x post (pre ++ [y]) (by simp; omega) n (by omega) k0 k1 K hK
    rw [len_snoc, List.append_assoc, List.singleton_append] at ih
    simp only [slices_Index___int_int__L0_0, T.int_i, T.rows_l, ixI, ix_nx pre (by omega)]
    rw [dec_t (by simp; omega), dec_t (by simp [ir_len]; omega)]
    by_cases h : x = y
    · subst h
      rw [cond_t (by simp), dec_t (by simp), hK]
    · rw [cond_f (by simp [h]), ih]
      by_cases h2 : x ∈ post
      · rw [dec_t h2, dec_t (by simp [h2])]
      · rw [dec_f h2, dec_f (by simp [h2, h])]
theorem contains_ok {m : Nat} (hm : 1048600 ≤ m) (l : List Int) (x : Int) (hl : l.length ≤ 1048576) (K : T → An) : slices_Contains___int_int_ m (.l (ir l)) (.i x) K = K (.b (decide (x ∈ l))) := by
  obtain ⟨m, rfl⟩ : ∃ m', m = m' + 2 := ⟨m - 2, by omega⟩
  simp only [slices_Contains___int_int_, slices_Index___int_int_, T.rows_l, ir_len]
  refine (idx_loop m x l [] (by simp; omega) m (by omega) _ _ (K (.b true)) (fun j => ?_)).trans ?_
  · simp only [T.int_i]
    rw [decide_eq_true (by omega)]
  · by_cases h : x ∈ l
    · rw [dec_t h, decide_eq_true h]
    · rw [dec_f h, decide_eq_false h]; rfl
theorem implYes (m : Nat) (hm : 1048610 ≤ m) (sh : List Int) (hsh : sh.length ≤ 1048576) (r : List T) (x6 x7 x8 : T) : ∀ (post pre : List Int), pre.length + post.length ≤ 1048576 → ∀ n, post.length < n → ∀ k0 k1,
    impl_Coord_jobOk_L0_0 m n (.l [r]) (.i 0) (.l (ir sh)) (.l (ir (pre ++ post))) (.i ((pre ++ post).length : Nat)) (.i pre.length) x6 x7 x8 (.l (ir (pre ++ post))) k0 k1 =
      cond (yesGo sh pre.getLast? post) (k1 (.l [r]) (.i 0) x6 x7 x8 (.l (ir (pre ++ post)))) (k0 (.b false))
  | [], pre, hs, n, hn, k0, k1 => by
    obtain ⟨n, rfl⟩ : ∃ m', n = m' + 1 := ⟨n - 1, by omega⟩
    have r1 : row1 (.l [r]) = r := rfl
    simp only [impl_Coord_jobOk_L0_0, T.int_i, T.rows_l, r1]
    rw [dec_f (by simp)]
    rfl
  | x :: post, pre, hs, n, hn, k0, k1 => by
    obtain ⟨n, rfl⟩ : ∃ m', n = m' + 1 := ⟨n - 1, by omega⟩
    simp only [List.length_cons] at hs hn
    have ih := implYes m hm sh hsh r x6 x7 x8 post (pre ++ [x]) (by simp; omega) n (by omega) k0 k1
    rw [len_snoc, List.append_assoc, List.singleton_append, List.getLast?_concat] at ih
    have r1 : row1 (.l [r]) = r := rfl
    simp only [impl_Coord_jobOk_L0_0, jn, T.int_i, T.rows_l, ixI, ix_nx pre (by omega), r1]
    rw [dec_t (by simp; omega), dec_t (by simp [ir_len]; omega), contains_ok (by omega) sh x hsh]
    simp only [yesGo, T.bool_b]
    by_cases h : x ∈ sh
    · rw [decide_eq_true h, cond_t (by rfl)]
      rcases List.eq_nil_or_concat pre with rfl | ⟨pre, q, rfl⟩
      · simpa using ih
      · simp only [List.concat_eq_append] at hs ih ⊢
        simp only [List.length_append, List.length_singleton, List.length_cons, List.length_nil] at hs
        have e : IntKind.i64.wrap (((pre ++ [q]).length : Int) - 1) = (pre.length : Int) := by rw [wrap_i64 (by omega) (by simp; omega)]; simp
        simp only [e, List.append_assoc, List.singleton_append, ixI1, T.int_i, List.getLast?_concat]
        rw [cond_t (by simp <;> omega), dec_t (by simp [ir_len] <;> omega)]
        simp only [List.append_assoc, List.singleton_append] at ih
        by_cases hq : q < x
        · rw [dec_f (by omega), decide_eq_true hq]; simpa using ih
        · rw [dec_t (by omega), decide_eq_false hq]; rfl
    · rw [decide_eq_false h]; rfl
/-! a job -/
def txOk (life next tx : Int) : Bool := decide (life * 1000 ≤ tx ∧ tx ≤ life * 1000 + next - 1)
def prevOk : Option DJob → DJob → Bool
  | none, _ => true
  | some q, x => decide (q.tx < x.tx)
def stateOk (log : List DChoice) (j : DJob) : Bool := match chIx j.tx log with
  | none => j.state == 1
  | some k => (j.state == 2 && (log.getD k default).yes) || (j.state == 3 && !(log.getD k default).yes)
def jobP (N life next : Int) (log : List DChoice) (j : DJob) : Bool := txOk life next j.tx && opsOkP j.ops && yesGo (shardsP j.ops N) none j.yes && stateOk log j
theorem stateOk_range {log : List DChoice} {j : DJob} (h : stateOk log j = true) : 1 ≤ j.state ∧ j.state ≤ 3 := by
  unfold stateOk at h
  split at h
  · simp at h; omega
  · simp at h; omega
theorem ixJ (pre : List DJob) (x : DJob) (post : List DJob) : (rJ (pre ++ x :: post)).getD (Int.toNat (pre.length : Int)) [] = x.r := by simp [List.getD]
theorem ixJ1 (pre : List DJob) (q x : DJob) (post : List DJob) : (rJ (pre ++ q :: x :: post)).getD (Int.toNat (pre.length : Int)) [] = q.r := by simp [List.getD]
theorem j0 (x : DJob) : x.r.getD 0 dflt = .i x.tx := rfl
theorem j1 (x : DJob) : x.r.getD 1 dflt = .l (rO x.ops) := rfl
theorem j2 (x : DJob) : x.r.getD 2 dflt = .i x.state := rfl
theorem j3 (x : DJob) : x.r.getD 3 dflt = .l (ir x.yes) := rfl
theorem shardsP_len (ops : List DOp) (n : Int) : (shardsP ops n).length ≤ ops.length := by
  have := foldU_len (ops.map fun o => ((shardP o.key n : Nat) : Int)) []
  simpa [shardsP] using this
theorem chI_neg (tx : Int) (log : List DChoice) : (chI tx log < 0) ↔ chIx tx log = none := by
  unfold chI; cases chIx tx log <;> simp <;> omega
/-- what comes behind the loop over those who said yes -/
theorem specState {m : Nat} (hm : 1048590 ≤ m) (N life next x5 : T) (jobs : List (List T)) (log : List DChoice) (j : DJob) (hl : log.length ≤ 1048576) (K : T → An) :
    spec_l11Chosen m N life next (.l jobs) (.l (rC log)) x5 (.i j.tx) (fun y31 => cond (decide (y31.int < 0)) (K (T.b (j.state == 1)))
      (cond ((j.state == 2) == true)
      (cond (decide ((0 : Int) ≤ y31.int ∧ y31.int < ((rC log).length : Int)))
      (cond (((((rC log).getD (Int.toNat y31.int) []).drop 1).getD 0 dflt).bool == false)
      (cond ((j.state == 3) == true)
      (cond (decide ((0 : Int) ≤ y31.int ∧ y31.int < ((rC log).length : Int)))
      (K (T.b (!((((rC log).getD (Int.toNat y31.int) []).drop 1).getD 0 dflt).bool)))
      (.bad))
      (K (T.b false)))
      (K (T.b true)))
      (.bad))
      (cond ((j.state == 3) == true)
      (cond (decide ((0 : Int) ≤ y31.int ∧ y31.int < ((rC log).length : Int)))
      (K (T.b (!((((rC log).getD (Int.toNat y31.int) []).drop 1).getD 0 dflt).bool)))
      (.bad))
      (K (T.b false))))) = K (.b (stateOk log j)) := by
  rw [specChosen hm N life next x5 jobs log j.tx hl]
  simp only [T.int_i]
  unfold chI stateOk
  cases hc : chIx j.tx log with
  | none => rfl
  | some k =>
    have hk := chIx_lt hc
    simp only [Int.toNat_natCast, rC_len, cGet log hk, T.bool_b]
    rw [dec_f (by omega), dec_t (by omega), dec_t (by omega)]
    cases h2 : (j.state == 2) <;> cases h3 : (j.state == 3) <;> cases (log.getD k default).yes <;> first | rfl | (simp at h2 h3; omega)
noncomputable def jobTail (m : Nat) (N life next : Int) (x5 : T) (jobs : List (List T)) (log : List DChoice) (x : DJob) (K : T → An) : An := spec_ShardsOf m (.l (rO x.ops)) (.i N) (fun y14 => spec_l11Job_L0_0 m m (T.i 0) (T.i 0) (T.l y14.rows) (T.i 0) (.i N) (.i life) (.i next) (T.l jobs) (T.l (rC log)) x5 (.i x.tx) (T.l (rO x.ops)) (.i x.state) (T.l (ir x.yes))
      (fun y18 => K y18)
      (fun y19 y20 y21 y22 y23 y24 y25 y26 y27 y28 y29 y30 => spec_l11Chosen m y21 y22 y23 (T.l y24.rows) (T.l y25.rows) y26 y27
      (fun y31 => cond (decide (y31.int < 0))
      (K (T.b (y29.int == 1)))
      (cond ((y29.int == 2) == true)
      (cond (decide ((0 : Int) ≤ y31.int ∧ y31.int < (y25.rows.length : Int)))
      (cond ((((y25.rows.getD (Int.toNat y31.int) []).drop 1).getD 0 dflt).bool == false)
      (cond ((y29.int == 3) == true)
      (cond (decide ((0 : Int) ≤ y31.int ∧ y31.int < (y25.rows.length : Int)))
      (K (T.b (!(((y25.rows.getD (Int.toNat y31.int) []).drop 1).getD 0 dflt).bool)))
      (.bad))
      (K (T.b false)))
      (K (T.b true)))
      (.bad))
      (cond ((y29.int == 3) == true)
      (cond (decide ((0 : Int) ≤ y31.int ∧ y31.int < (y25.rows.length : Int)))
      (K (T.b (!(((y25.rows.getD (Int.toNat y31.int) []).drop 1).getD 0 dflt).bool)))
      (.bad))
      (K (T.b false)))))))
theorem specJob {m : Nat} (hm : 1050000 ≤ m) (N life next : Int) (x5 : T) (log : List DChoice) (hl : log.length ≤ 1048576) (h1 : 1 ≤ life ∧ life ≤ 900) (h2 : 0 ≤ next ∧ next ≤ 999) (pre : List DJob) (x : DJob) (post : List DJob) (hx : BJob x) (hs : pre.length + post.length < 1048576) (K : T → An) :
    spec_l11Job m (.i N) (.i life) (.i next) (.l (rJ (pre ++ x :: post))) (.l (rC log)) x5 (.i pre.length) K = K (.b (prevOk pre.getLast? x && jobP N life next log x)) := by
  obtain ⟨m, rfl⟩ : ∃ m', m = m' + 1 := ⟨m - 1, by omega⟩
  have e1 : IntKind.i64.wrap (life * 1000) = life * 1000 := wrap_i64 (by omega) (by omega)
  have e2 : IntKind.i64.wrap (life * 1000 + next) = life * 1000 + next := wrap_i64 (by omega) (by omega)
  have e3 : IntKind.i64.wrap (life * 1000 + next - 1) = life * 1000 + next - 1 := wrap_i64 (by omega) (by omega)
  simp only [spec_l11Job, T.int_i, T.rows_l, ixJ, j0, j1, j2, j3, e1, e2, e3]
  rw [dec_t (by simp; omega)]
  -- behind the first checks
  have fin : ∀ (K : T → An), jobP N life next log x = (txOk life next x.tx && opsOkP x.ops && yesGo (shardsP x.ops N) none x.yes && stateOk log x) := fun _ => rfl
  simp only [jn]
  rw [l1In_ok (by omega)]
  simp only [T.bool_b]
  have hyl := shardsP_len x.ops N
  have hxo := hx.1.1
  have hyes : x.yes.length ≤ 1048576 := hx.2
  have tail : ∀ (K : T → An), jobTail m N life next x5 (rJ (pre ++ x :: post)) log x K = K (.b (yesGo (shardsP x.ops N) none x.yes && stateOk log x)) := fun K => by
    unfold jobTail
    rw [specShards (by omega) x.ops N hx.1]
    refine (specYes m (by omega) (shardsP x.ops N) (by omega) _ _ _ _ _ _ _ _ _ x.yes [] (by simpa using hyes) m (by omega) _ _).trans ?_
    simp only [List.nil_append, List.getLast?_nil, T.int_i, T.rows_l]
    rw [specState (by omega) (.i N) (.i life) (.i next) x5 _ log x hl]
    cases yesGo (shardsP x.ops N) none x.yes <;> rfl
  have rest : ∀ (K : T → An), spec_OpsOk m (.l (rO x.ops)) (fun y1 => cond ((!y1.bool) == false) (spec_l1In m (.i x.state) (T.i 1) (T.i 3) (fun y2 => cond (!y2.bool) (K (T.b false)) (jobTail m N life next x5 (rJ (pre ++ x :: post)) log x K))) (K (T.b false))) = K (.b (opsOkP x.ops && yesGo (shardsP x.ops N) none x.yes && stateOk log x)) := fun K => by
    rw [specOps_ok (by omega) x.ops hx.1]
    simp only [T.bool_b]
    cases ho : opsOkP x.ops with
    | false => rfl
    | true =>
      rw [cond_t (by rfl), l1In_ok (by omega)]
      simp only [T.bool_b]
      by_cases hr : 1 ≤ x.state ∧ x.state ≤ 3
      · rw [decide_eq_true hr]
        simp only [Bool.not_true, cond_false]
        rw [tail]
        rfl
      · rw [decide_eq_false hr]
        have : stateOk log x = false := by
          cases hq : stateOk log x with
          | false => rfl
          | true => exact absurd (stateOk_range hq) hr
        rw [this, Bool.and_false]
        rfl
  unfold jobP txOk
  by_cases ht : life * 1000 ≤ x.tx ∧ x.tx ≤ life * 1000 + next - 1
  · rw [decide_eq_true ht, cond_t (by rfl)]
    rcases List.eq_nil_or_concat pre with rfl | ⟨pre, q, rfl⟩
    · rw [cond_f (by simp)]
      refine (rest K).trans ?_
      simp [prevOk]
    · simp only [List.concat_eq_append] at hs rest ⊢
      simp only [List.length_append, List.length_singleton, List.length_cons, List.length_nil] at hs
      have e : IntKind.i64.wrap (((pre ++ [q]).length : Int) - 1) = (pre.length : Int) := by rw [wrap_i64 (by omega) (by simp; omega)]; simp
      simp only [e, List.append_assoc, List.singleton_append, ixJ1, j0, T.int_i, List.getLast?_concat] at rest ⊢
      rw [cond_t (by simp <;> omega), dec_t (by simp <;> omega)]
      rw [show prevOk (some q) x = decide (q.tx < x.tx) from rfl]
      by_cases hq : q.tx < x.tx
      · rw [decide_eq_true hq, cond_t (by simp; omega)]
        refine (rest K).trans ?_
        simp
      · rw [decide_eq_false hq, cond_f (by simp; omega)]
        simp
  · rw [decide_eq_false ht]
    simp
end Go.Proofs.Ytajahiglgcogeaa

namespace Go.Proofs.Ytajahiglgcogeaa
open Go Go.E Go.Proofs
abbrev cRow (N life next : Int) (jobs log : List (List T)) (x5 : T) : List T := [.i N, .i life, .i next, .l jobs, .l log, x5]
theorem nextTx {m : Nat} (hm : 1 ≤ m) (N life next : Int) (jobs log : List (List T)) (x5 : T) (h1 : 1 ≤ life ∧ life ≤ 900) (h2 : 0 ≤ next ∧ next ≤ 999) (K : T → An) : impl_Coord_nextTx m (.l [cRow N life next jobs log x5]) K = K (.i (life * 1000 + next)) := by
  obtain ⟨m, rfl⟩ : ∃ m', m = m' + 1 := ⟨m - 1, by omega⟩
  have r1 : row1 (.l [cRow N life next jobs log x5]) = cRow N life next jobs log x5 := rfl
  simp only [impl_Coord_nextTx, r1, cRow, List.drop_succ_cons, List.drop_zero, List.getD_cons_zero, T.int_i]
  rw [wrap_i64 (x := life * 1000) (by omega) (by omega), wrap_i64 (by omega) (by omega)]
theorem implJob {m : Nat} (hm : 1050000 ≤ m) (N life next : Int) (x5 : T) (jobs : List (List T)) (log : List DChoice) (hl : log.length ≤ 1048576) (h1 : 1 ≤ life ∧ life ≤ 900) (h2 : 0 ≤ next ∧ next ≤ 999) (x : DJob) (hx : BJob x) (K : T → An) :
    impl_Coord_jobOk m (.l [cRow N life next jobs (rC log) x5]) (.i x.tx) (.l (rO x.ops)) (.i x.state) (.l (ir x.yes)) K = K (.b (jobP N life next log x)) := by
  obtain ⟨m, rfl⟩ : ∃ m', m = m' + 1 := ⟨m - 1, by omega⟩
  have e1 : IntKind.i64.wrap (life * 1000) = life * 1000 := wrap_i64 (by omega) (by omega)
  have e3 : IntKind.i64.wrap (life * 1000 + next - 1) = life * 1000 + next - 1 := wrap_i64 (by omega) (by omega)
  have r1 : row1 (.l [cRow N life next jobs (rC log) x5]) = cRow N life next jobs (rC log) x5 := rfl
  have r2 : (cRow N life next jobs (rC log) x5).take 6 = cRow N life next jobs (rC log) x5 := rfl
  have r3 : ((cRow N life next jobs (rC log) x5).drop 1).getD 0 dflt = .i life := rfl
  have r4 : (cRow N life next jobs (rC log) x5).getD 0 dflt = .i N := rfl
  have r5 : ((cRow N life next jobs (rC log) x5).drop 4).getD 0 dflt = .l (rC log) := rfl
  have hyl := shardsP_len x.ops N
  have hxo := hx.1.1
  have hyes : x.yes.length ≤ 1048576 := hx.2
  simp only [impl_Coord_jobOk, jn, r1, r2, r3, r4, r5, T.int_i, T.rows_l]
  rw [nextTx (by omega) N life next jobs (rC log) x5 h1 h2]
  simp only [T.int_i, e1, e3]
  rw [inRange_ok (by omega)]
  unfold jobP txOk
  simp only [T.bool_b]
  by_cases ht : life * 1000 ≤ x.tx ∧ x.tx ≤ life * 1000 + next - 1
  · rw [decide_eq_true ht, cond_t (by rfl), implOps_ok (by omega) x.ops hx.1]
    simp only [T.bool_b]
    cases ho : opsOkP x.ops with
    | false => rfl
    | true =>
      simp only [Bool.not_true, cond_false]
      rw [implShards (by omega) x.ops N hx.1]
      simp only [T.rows_l, ir_len]
      refine (implYes m (by omega) (shardsP x.ops N) (by omega) _ _ _ _ x.yes [] (by simpa using hyes) m (by omega) _ _).trans ?_
      simp only [List.nil_append, List.getLast?_nil, T.int_i, T.rows_l, r1, r2, r5]
      rw [implChoice (by omega) (.i N) (.i life) (.i next) x5 _ log x.tx hl]
      simp only [T.int_i]
      cases yesGo (shardsP x.ops N) none x.yes with
      | false => rfl
      | true =>
        simp only [cond_true, Bool.true_and, Bool.and_true]
        unfold chI stateOk
        cases hc : chIx x.tx log with
        | none =>
          simp only
          by_cases s1 : x.state = 1
          · rw [cond_t (by simp [s1])]; simp [s1]
          · rw [cond_f (by simp [s1])]
            by_cases s2 : x.state = 2
            · rw [cond_t (by simp [s2]), beq_eq_false_iff_ne.2 s1]; rfl
            · rw [cond_f (by simp [s2]), beq_eq_false_iff_ne.2 s1]
              by_cases s3 : x.state = 3
              · rw [cond_t (by simp [s3])]; rfl
              · rw [cond_f (by simp [s3])]
        | some k =>
          have hk := chIx_lt hc
          have hd0 : (decide ((k : Int) < 0)) = false := decide_eq_false (by omega)
          have hd1 : (decide ((k : Int) ≥ 0)) = true := decide_eq_true (by omega)
          simp only [Int.toNat_natCast, cGet log hk, T.bool_b, hd0, hd1, rC_len]
          by_cases s1 : x.state = 1
          · rw [cond_t (by simp [s1])]; simp [s1]
          · rw [cond_f (by simp [s1])]
            by_cases s2 : x.state = 2
            · rw [cond_t (by simp [s2]), cond_t (by rfl), dec_t (by omega)]; simp [s2]
            · rw [cond_f (by simp [s2])]
              by_cases s3 : x.state = 3
              · rw [cond_t (by simp [s3]), cond_t (by rfl), dec_t (by omega)]; simp [s3]
              · rw [cond_f (by simp [s3]), beq_eq_false_iff_ne.2 s2, beq_eq_false_iff_ne.2 s3]; rfl
  · rw [decide_eq_false ht]; rfl
/-! the log, the jobs -/
def logGo (life next : Int) (full : List DChoice) : Nat → List DChoice → Bool
  | _, [] => true
  | i, x :: xs => decide (1000 ≤ x.tx ∧ x.tx ≤ life * 1000 + next - 1) && decide (chI x.tx full = i) && logGo life next full (i + 1) xs
def jobsGo (N life next : Int) (log : List DChoice) : Option DJob → List DJob → Bool
  | _, [] => true
  | p, x :: xs => (prevOk p x && jobP N life next log x) && jobsGo N life next log (some x) xs
theorem specLog (m : Nat) (hm : 1050000 ≤ m) (N life next : Int) (x7 : T) (jobs : List (List T)) (h1 : 1 ≤ life ∧ life ≤ 900) (h2 : 0 ≤ next ∧ next ≤ 999) : ∀ (post pre : List DChoice), pre.length + post.length ≤ 1048576 → ∀ n, post.length < n → ∀ k0 k1,
    spec_CoordOk_L0_0 m n (.i 0) (.i pre.length) (.i N) (.i life) (.i next) (.l jobs) (.l (rC (pre ++ post))) x7 k0 k1 =
      cond (logGo life next (pre ++ post) pre.length post) (k1 (.i 0) (.i N) (.i life) (.i next) (.l jobs) (.l (rC (pre ++ post))) x7) (k0 (.b false))
  | [], pre, hs, n, hn, k0, k1 => by
    obtain ⟨n, rfl⟩ : ∃ m', n = m' + 1 := ⟨n - 1, by omega⟩
    simp only [spec_CoordOk_L0_0, T.int_i, T.rows_l]
    rw [dec_f (by simp)]
    rfl
  | x :: post, pre, hs, n, hn, k0, k1 => by
    obtain ⟨n, rfl⟩ : ∃ m', n = m' + 1 := ⟨n - 1, by omega⟩
    simp only [List.length_cons] at hs hn
    have ih := specLog m hm N life next x7 jobs h1 h2 post (pre ++ [x]) (by simp; omega) n (by omega) k0 k1
    rw [len_snoc, List.append_assoc, List.singleton_append] at ih
    have e1 : IntKind.i64.wrap (life * 1000) = life * 1000 := wrap_i64 (by omega) (by omega)
    have e2 : IntKind.i64.wrap (life * 1000 + next) = life * 1000 + next := wrap_i64 (by omega) (by omega)
    have e3 : IntKind.i64.wrap (life * 1000 + next - 1) = life * 1000 + next - 1 := wrap_i64 (by omega) (by omega)
    simp only [spec_CoordOk_L0_0, jn, T.int_i, T.rows_l, ixC, ix_nx pre (by omega), c0, e1, e2, e3]
    rw [dec_t (by simp; omega), dec_t (by simp; omega), l1In_ok (by omega)]
    simp only [T.bool_b, logGo]
    by_cases ht : 1000 ≤ x.tx ∧ x.tx ≤ life * 1000 + next - 1
    · rw [decide_eq_true ht, cond_t (by rfl), dec_t (by simp; omega), specChosen (by omega) (.i N) (.i life) (.i next) x7 jobs (pre ++ x :: post) x.tx (by simp; omega)]
      simp only [T.int_i]
      by_cases hc : chI x.tx (pre ++ x :: post) = (pre.length : Int)
      · rw [cond_f (by simp [hc]), decide_eq_true hc]
        refine ih.trans ?_
        simp
      · rw [cond_t (by simp [hc]), decide_eq_false hc]
        simp
    · rw [decide_eq_false ht]; rfl
theorem implLog (m : Nat) (hm : 1050000 ≤ m) (N life next : Int) (x9 : T) (jobs : List (List T)) (h1 : 1 ≤ life ∧ life ≤ 900) (h2 : 0 ≤ next ∧ next ≤ 999) : ∀ (post pre : List DChoice), pre.length + post.length ≤ 1048576 → ∀ n, post.length < n → ∀ k0 k1,
    impl_CoordOk_L0_0 m n (.i 0) (.l (rC (pre ++ post))) (.i ((pre ++ post).length : Nat)) (.i pre.length) (.i N) (.i life) (.i next) (.l jobs) (.l (rC (pre ++ post))) x9 k0 k1 =
      cond (logGo life next (pre ++ post) pre.length post) (k1 (.i 0) (.i N) (.i life) (.i next) (.l jobs) (.l (rC (pre ++ post))) x9) (k0 (.b false))
  | [], pre, hs, n, hn, k0, k1 => by
    obtain ⟨n, rfl⟩ : ∃ m', n = m' + 1 := ⟨n - 1, by omega⟩
    simp only [impl_CoordOk_L0_0, T.int_i, T.rows_l]
    rw [dec_f (by simp)]
    rfl
  | x :: post, pre, hs, n, hn, k0, k1 => by
    obtain ⟨n, rfl⟩ : ∃ m', n = m' + 1 := ⟨n - 1, by omega⟩
    simp only [List.length_cons] at hs hn
    have ih := implLog m hm N life next x9 jobs h1 h2 post (pre ++ [x]) (by simp; omega) n (by omega) k0 k1
    rw [len_snoc, List.append_assoc, List.singleton_append] at ih
    have e3 : IntKind.i64.wrap (life * 1000 + next - 1) = life * 1000 + next - 1 := wrap_i64 (by omega) (by omega)
    simp only [impl_CoordOk_L0_0, jn, T.int_i, T.rows_l, ixC, ix_nx pre (by omega), c0]
    rw [dec_t (by simp; omega), dec_t (by simp; omega), nextTx (by omega) N life next jobs (rC (pre ++ x :: post)) x9 h1 h2]
    simp only [T.int_i, e3]
    rw [inRange_ok (by omega)]
    simp only [T.bool_b, logGo]
    by_cases ht : 1000 ≤ x.tx ∧ x.tx ≤ life * 1000 + next - 1
    · rw [decide_eq_true ht, cond_t (by rfl), implChoice (by omega) (.i N) (.i life) (.i next) x9 (.l jobs) (pre ++ x :: post) x.tx (by simp; omega)]
      simp only [T.int_i]
      by_cases hc : chI x.tx (pre ++ x :: post) = (pre.length : Int)
      · rw [cond_f (by simp [hc]), decide_eq_true hc]
        refine ih.trans ?_
        simp
      · rw [cond_t (by simp [hc]), decide_eq_false hc]
        simp
    · rw [decide_eq_false ht]; rfl
theorem specJobs (m : Nat) (hm : 1050010 ≤ m) (N life next : Int) (x7 : T) (log : List DChoice) (hl : log.length ≤ 1048576) (h1 : 1 ≤ life ∧ life ≤ 900) (h2 : 0 ≤ next ∧ next ≤ 999) : ∀ (post pre : List DJob), (∀ x ∈ post, BJob x) → pre.length + post.length ≤ 1048576 → ∀ n, post.length < n → ∀ k0 k1,
    spec_CoordOk_L1_0 m n (.i 0) (.i pre.length) (.i N) (.i life) (.i next) (.l (rJ (pre ++ post))) (.l (rC log)) x7 k0 k1 = cond (jobsGo N life next log pre.getLast? post) k1 (k0 (.b false))
  | [], pre, ho, hs, n, hn, k0, k1 => by
    obtain ⟨n, rfl⟩ : ∃ m', n = m' + 1 := ⟨n - 1, by omega⟩
    simp only [spec_CoordOk_L1_0, T.int_i, T.rows_l]
    rw [dec_f (by simp)]
    rfl
  | x :: post, pre, ho, hs, n, hn, k0, k1 => by
    obtain ⟨n, rfl⟩ : ∃ m', n = m' + 1 := ⟨n - 1, by omega⟩
    simp only [List.length_cons] at hs hn
    have ih := specJobs m hm N life next x7 log hl h1 h2 post (pre ++ [x]) (fun p hp => ho p (by simp [hp])) (by simp; omega) n (by omega) k0 k1
    rw [len_snoc, List.append_assoc, List.singleton_append, List.getLast?_concat] at ih
    simp only [spec_CoordOk_L1_0, jn, T.int_i, T.rows_l, ix_nx pre (by omega)]
    rw [dec_t (by simp; omega), specJob (by omega) N life next x7 log hl h1 h2 pre x post (ho x (by simp)) (by omega)]
    simp only [T.bool_b, jobsGo]
    cases prevOk pre.getLast? x && jobP N life next log x with
    | false => rfl
    | true => exact ih
theorem implJobs (m : Nat) (hm : 1050010 ≤ m) (N life next : Int) (x9 : T) (log : List DChoice) (hl : log.length ≤ 1048576) (h1 : 1 ≤ life ∧ life ≤ 900) (h2 : 0 ≤ next ∧ next ≤ 999) : ∀ (post pre : List DJob), (∀ x ∈ post, BJob x) → pre.length + post.length ≤ 1048576 → ∀ n, post.length < n → ∀ k0 k1,
    impl_CoordOk_L1_0 m n (.i 0) (.l (rJ (pre ++ post))) (.i ((pre ++ post).length : Nat)) (.i pre.length) (.i N) (.i life) (.i next) (.l (rJ (pre ++ post))) (.l (rC log)) x9 k0 k1 = cond (jobsGo N life next log pre.getLast? post) k1 (k0 (.b false))
  | [], pre, ho, hs, n, hn, k0, k1 => by
    obtain ⟨n, rfl⟩ : ∃ m', n = m' + 1 := ⟨n - 1, by omega⟩
    simp only [impl_CoordOk_L1_0, T.int_i, T.rows_l]
    rw [dec_f (by simp)]
    rfl
  | x :: post, pre, ho, hs, n, hn, k0, k1 => by
    obtain ⟨n, rfl⟩ : ∃ m', n = m' + 1 := ⟨n - 1, by omega⟩
    simp only [List.length_cons] at hs hn
    have ih := implJobs m hm N life next x9 log hl h1 h2 post (pre ++ [x]) (fun p hp => ho p (by simp [hp])) (by simp; omega) n (by omega) k0 k1
    rw [len_snoc, List.append_assoc, List.singleton_append, List.getLast?_concat] at ih
    simp only [impl_CoordOk_L1_0, jn, T.int_i, T.rows_l, ixJ, ix_nx pre (by omega), j0, j1, j2, j3]
    rw [dec_t (by simp; omega), dec_t (by simp; omega), implJob (by omega) N life next x9 (rJ (pre ++ x :: post)) log hl h1 h2 x (ho x (by simp))]
    simp only [T.bool_b, jobsGo]
    cases hj : jobP N life next log x with
    | false => simp
    | true =>
      rcases List.eq_nil_or_concat pre with rfl | ⟨pre, q, rfl⟩
      · simpa [prevOk] using ih
      · simp only [List.concat_eq_append] at hs ih ⊢
        simp only [List.length_append, List.length_singleton, List.length_cons, List.length_nil] at hs
        have e : IntKind.i64.wrap (((pre ++ [q]).length : Int) - 1) = (pre.length : Int) := by rw [wrap_i64 (by omega) (by simp; omega)]; simp
        simp only [e, List.append_assoc, List.singleton_append, ixJ1, j0, T.int_i, List.getLast?_concat] at ih ⊢
        rw [cond_t (by rfl : ((!true) == false) = true), cond_t (by simp <;> omega), dec_t (by simp <;> omega)]
        rw [show prevOk (some q) x = decide (q.tx < x.tx) from rfl]
        by_cases hq : q.tx < x.tx
        · rw [dec_f (by omega), decide_eq_true hq]; simpa using ih
        · rw [dec_t (by omega), decide_eq_false hq]; rfl
def coordOkP (N life next : Int) (jobs : List DJob) (log : List DChoice) (sure : Int) : Bool :=
  decide (1 ≤ N ∧ N ≤ 8) && (decide (1 ≤ life ∧ life ≤ 900) && (decide (0 ≤ next ∧ next ≤ 999) && (decide (log.length ≤ 1000) && (decide (0 ≤ sure ∧ sure ≤ log.length) && (logGo life next log 0 log && jobsGo N life next log none jobs)))))
theorem len1000 (l : List DChoice) : ((decide ((l.length : Int) > 1000)) == false) = decide (l.length ≤ 1000) := by
  by_cases h : l.length ≤ 1000
  · rw [decide_eq_true h, decide_eq_false (by omega)]; rfl
  · rw [decide_eq_false h, decide_eq_true (by omega)]; rfl
theorem specCoord {m : Nat} (hm : 1050100 ≤ m) (N life next sure : Int) (jobs : List DJob) (log : List DChoice) (hj : BJobs jobs) (hl : log.length ≤ 1048576) (K : T → An) :
    spec_CoordOk m (.i N) (.i life) (.i next) (.l (rJ jobs)) (.l (rC log)) (.i sure) K = K (.b (coordOkP N life next jobs log sure)) := by
  obtain ⟨m, rfl⟩ : ∃ m', m = m' + 1 := ⟨m - 1, by omega⟩
  have hjl := hj.1
  simp only [spec_CoordOk, jn, T.rows_l, T.int_i, rC_len, len1000]
  unfold coordOkP
  rw [l1In_ok (by omega)]
  by_cases a1 : 1 ≤ N ∧ N ≤ 8
  · rw [decide_eq_true a1, cond_t (by rfl), l1In_ok (by omega)]
    by_cases a2 : 1 ≤ life ∧ life ≤ 900
    · rw [decide_eq_true a2, cond_t (by rfl), l1In_ok (by omega)]
      by_cases a3 : 0 ≤ next ∧ next ≤ 999
      · rw [decide_eq_true a3, cond_t (by rfl)]
        by_cases a4 : log.length ≤ 1000
        · rw [decide_eq_true a4, cond_true, l1In_ok (by omega)]
          by_cases a5 : 0 ≤ sure ∧ sure ≤ log.length
          · rw [decide_eq_true a5, cond_f (by rfl)]
            refine (specLog m (by omega) N life next (.i sure) (rJ jobs) a2 a3 log [] (by simpa using hl) m (by omega) _ _).trans ?_
            simp only [List.nil_append, List.length_nil]
            cases logGo life next log 0 log with
            | false => rfl
            | true =>
              refine (specJobs m (by omega) N life next (.i sure) log hl a2 a3 jobs [] hj.2 (by simpa using hjl) m (by omega) _ _).trans ?_
              simp only [List.getLast?_nil]
              cases jobsGo N life next log none jobs <;> rfl
          · rw [decide_eq_false a5]; rfl
        · rw [decide_eq_false a4]; rfl
      · rw [decide_eq_false a3]; rfl
    · rw [decide_eq_false a2]; rfl
  · rw [decide_eq_false a1]; rfl
theorem implCoord {m : Nat} (hm : 1050100 ≤ m) (N life next sure : Int) (jobs : List DJob) (log : List DChoice) (hj : BJobs jobs) (hl : log.length ≤ 1048576) (K : T → An) :
    impl_CoordOk m (.i N) (.i life) (.i next) (.l (rJ jobs)) (.l (rC log)) (.i sure) K = K (.b (coordOkP N life next jobs log sure)) := by
  obtain ⟨m, rfl⟩ : ∃ m', m = m' + 1 := ⟨m - 1, by omega⟩
  have hjl := hj.1
  simp only [impl_CoordOk, jn, T.rows_l, T.int_i, rC_len, len1000]
  unfold coordOkP
  rw [inRange_ok (by omega)]
  by_cases a1 : 1 ≤ N ∧ N ≤ 8
  · rw [decide_eq_true a1, cond_t (by rfl), inRange_ok (by omega)]
    by_cases a2 : 1 ≤ life ∧ life ≤ 900
    · rw [decide_eq_true a2, cond_t (by rfl), inRange_ok (by omega)]
      by_cases a3 : 0 ≤ next ∧ next ≤ 999
      · rw [decide_eq_true a3, cond_t (by rfl)]
        by_cases a4 : log.length ≤ 1000
        · rw [decide_eq_true a4, cond_true, inRange_ok (by omega)]
          by_cases a5 : 0 ≤ sure ∧ sure ≤ log.length
          · rw [decide_eq_true a5, cond_f (by rfl)]
            refine (implLog m (by omega) N life next (.i sure) (rJ jobs) a2 a3 log [] (by simpa using hl) m (by omega) _ _).trans ?_
            simp only [List.nil_append, List.length_nil, T.rows_l, rJ_len]
            cases logGo life next log 0 log with
            | false => rfl
            | true =>
              refine (implJobs m (by omega) N life next (.i sure) log hl a2 a3 jobs [] hj.2 (by simpa using hjl) m (by omega) _ _).trans ?_
              simp only [List.getLast?_nil]
              cases jobsGo N life next log none jobs <;> rfl
          · rw [decide_eq_false a5]; rfl
        · rw [decide_eq_false a4]; rfl
      · rw [decide_eq_false a3]; rfl
    · rw [decide_eq_false a2]; rfl
  · rw [decide_eq_false a1]; rfl
end Go.Proofs.Ytajahiglgcogeaa

namespace Go.Proofs.Ytajahiglgcogeaa
open Go Go.E Go.Proofs
/-! copies -/
theorem copyOps {m : Nat} (hm : 1 ≤ m) (l : List DOp) (h : l.length ≤ 1048576) (K : T → An) : spec_l7CopyOps m (.l (rO l)) K = K (.l (rO l)) := by
  obtain ⟨m, rfl⟩ : ∃ m', m = m' + 1 := ⟨m - 1, by omega⟩
  simp only [spec_l7CopyOps, T.rows_l, rO_len]
  rw [dec_t (by unfold maxRow; omega)]
theorem cloneOps {m : Nat} (hm : 1 ≤ m) (l : List DOp) (h : l.length ≤ 1048576) (K : T → An) : slices_Clone___impl_Op_impl_Op_ m (.l (rO l)) K = K (.l (rO l)) := by
  obtain ⟨m, rfl⟩ : ∃ m', m = m' + 1 := ⟨m - 1, by omega⟩
  simp only [slices_Clone___impl_Op_impl_Op_, T.rows_l, rO_len]
  rw [dec_t (by unfold maxRow; omega)]
theorem cloneInts {m : Nat} (hm : 1 ≤ m) (l : List Int) (h : l.length ≤ 1048576) (K : T → An) : slices_Clone___int_int_ m (.l (ir l)) K = K (.l (ir l)) := by
  obtain ⟨m, rfl⟩ : ∃ m', m = m' + 1 := ⟨m - 1, by omega⟩
  simp only [slices_Clone___int_int_, T.rows_l, ir_len]
  rw [dec_t (by unfold maxRow; omega)]
theorem cloneChoices {m : Nat} (hm : 1 ≤ m) (l : List DChoice) (h : l.length ≤ 1048576) (K : T → An) : slices_Clone___impl_Choice_impl_Choice_ m (.l (rC l)) K = K (.l (rC l)) := by
  obtain ⟨m, rfl⟩ : ∃ m', m = m' + 1 := ⟨m - 1, by omega⟩
  simp only [slices_Clone___impl_Choice_impl_Choice_, T.rows_l, rC_len]
  rw [dec_t (by unfold maxRow; omega)]
theorem jSnoc (pre : List DJob) (x : DJob) : rJ pre ++ [[T.i x.tx, T.l (rO x.ops), T.i x.state, T.l (ir x.yes)]] = rJ (pre ++ [x]) := by simp [DJob.r]
theorem specCopy_loop (m : Nat) (hm : 1 ≤ m) (x4 x5 x6 x8 x9 x10 x11 x12 x13 x14 x15 x16 x17 : T) (c18 c19 c21 : List (List T)) : ∀ (post pre : List DJob), (∀ x ∈ post, BJob x) → pre.length + post.length ≤ 1048576 → ∀ n, post.length < n → ∀ k0,
    spec_l11Copy_L0_0 m n (.i 0) (.i 0) (.i 0) (.i pre.length) x4 x5 x6 (.l (rJ (pre ++ post))) x8 x9 x10 x11 x12 x13 x14 x15 x16 x17 (.l c18) (.l c19) (.l (rJ pre)) (.l c21) k0 = k0 (.i 0) (.i 0) x10 x11 x12 x13 x14 x15 x16 x17 (.l c18) (.l c19) (.l (rJ (pre ++ post))) (.l c21)
  | [], pre, ho, hs, n, hn, k0 => by
    obtain ⟨n, rfl⟩ : ∃ m', n = m' + 1 := ⟨n - 1, by omega⟩
    simp only [spec_l11Copy_L0_0, T.int_i, T.rows_l]
    rw [dec_f (by simp), List.append_nil]
    rfl
  | x :: post, pre, ho, hs, n, hn, k0 => by
    obtain ⟨n, rfl⟩ : ∃ m', n = m' + 1 := ⟨n - 1, by omega⟩
    simp only [List.length_cons] at hs hn
    have hx := ho x (by simp)
    have hxo := hx.1.1
    have hxy : x.yes.length ≤ 1048576 := hx.2
    have ih := specCopy_loop m hm x4 x5 x6 x8 x9 x10 x11 x12 x13 x14 x15 x16 x17 c18 c19 c21 post (pre ++ [x]) (fun p hp => ho p (by simp [hp])) (by simp; omega) n (by omega) k0
    rw [len_snoc, List.append_assoc, List.singleton_append] at ih
    simp only [spec_l11Copy_L0_0, T.int_i, T.rows_l, ixJ, ix_nx pre (by omega), j0, j1, j2, j3]
    rw [dec_t (by simp; omega), dec_t (by simp; omega), copyOps hm x.ops hxo, dec_t (by rw [ir_len]; unfold maxRow; omega), dec_t (by rw [rJ_len]; unfold maxRow; omega), T.rows_l, jSnoc]
    exact ih
theorem specCopy {m : Nat} (hm : 1048590 ≤ m) (N life next sure : T) (jobs : List DJob) (log : List DChoice) (hj : BJobs jobs) (hl : log.length ≤ 1048576) (K : T → T → T → T → T → T → An) :
    spec_l11Copy m N life next (.l (rJ jobs)) (.l (rC log)) sure K = K N life next (.l (rJ jobs)) (.l (rC log)) sure := by
  obtain ⟨m, rfl⟩ : ∃ m', m = m' + 1 := ⟨m - 1, by omega⟩
  have hjl := hj.1
  simp only [spec_l11Copy, T.rows_l, rC_len]
  rw [dec_t (by unfold maxRow; omega)]
  exact (specCopy_loop m (by omega) _ _ _ _ _ _ _ _ _ _ _ _ _ _ _ _ jobs [] hj.2 (by simpa using hjl) m (by omega) _).trans rfl
theorem implCopy_loop (m : Nat) (hm : 1 ≤ m) (x6 x7 x8 x9 x10 x11 x12 x13 x14 x15 x16 x17 x18 x19 x20 : T) (c21 c22 : List (List T)) : ∀ (post pre : List DJob), (∀ x ∈ post, BJob x) → pre.length + post.length ≤ 1048576 → ∀ n, post.length < n → ∀ k0 k1,
    impl_copyCoord_L0_1 m n (.i 0) (.i 0) (.i 0) (.l (rJ (pre ++ post))) (.i ((pre ++ post).length : Nat)) (.i pre.length) x6 x7 x8 x9 x10 x11 x12 x13 x14 x15 x16 x17 x18 x19 x20 (.l c21) (.l c22) (.l (rJ pre)) k0 k1 = k0 (.i 0) (.i 0) (.i 0) x6 x7 x8 x9 x10 x11 x12 x13 x14 x15 x16 x17 x18 x19 x20 (.l c21) (.l c22) (.l (rJ (pre ++ post)))
  | [], pre, ho, hs, n, hn, k0, k1 => by
    obtain ⟨n, rfl⟩ : ∃ m', n = m' + 1 := ⟨n - 1, by omega⟩
    simp only [impl_copyCoord_L0_1, T.int_i, T.rows_l]
    rw [dec_f (by simp), List.append_nil]
    rfl
  | x :: post, pre, ho, hs, n, hn, k0, k1 => by
    obtain ⟨n, rfl⟩ : ∃ m', n = m' + 1 := ⟨n - 1, by omega⟩
    simp only [List.length_cons] at hs hn
    have hx := ho x (by simp)
    have hxo := hx.1.1
    have hxy : x.yes.length ≤ 1048576 := hx.2
    have ih := implCopy_loop m hm x6 x7 x8 x9 x10 x11 x12 x13 x14 x15 x16 x17 x18 x19 x20 c21 c22 post (pre ++ [x]) (fun p hp => ho p (by simp [hp])) (by simp; omega) n (by omega) k0 k1
    rw [len_snoc, List.append_assoc, List.singleton_append] at ih
    simp only [impl_copyCoord_L0_1, T.int_i, T.rows_l, ixJ, ix_nx pre (by omega), j0, j1, j2, j3]
    rw [dec_t (by simp; omega), dec_t (by simp; omega), cloneOps hm x.ops hxo, cloneInts hm x.yes hxy, dec_t (by rw [rJ_len]; unfold maxRow; omega), T.rows_l, T.rows_l, jSnoc]
    exact ih
theorem implCopy {m : Nat} (hm : 1048590 ≤ m) (N life next sure : T) (jobs : List DJob) (log : List DChoice) (hj : BJobs jobs) (hl : log.length ≤ 1048576) (K : T → T → T → T → T → T → An) :
    impl_copyCoord m N life next (.l (rJ jobs)) (.l (rC log)) sure K = K N life next (.l (rJ jobs)) (.l (rC log)) sure := by
  obtain ⟨m, rfl⟩ : ∃ m', m = m' + 1 := ⟨m - 1, by omega⟩
  have hjl := hj.1
  simp only [impl_copyCoord, T.rows_l]
  obtain ⟨n, hn⟩ : ∃ n, n + 1 = m := ⟨m - 1, by omega⟩
  cases jobs with
  | nil =>
    refine (show impl_copyCoord_L0_0 m m _ _ _ _ _ _ _ _ _ _ _ _ _ _ _ _ _ _ _ _ _ _ _ _ _ = _ from ?_)
    conv => lhs; arg 2; rw [← hn]
    simp only [impl_copyCoord_L0_0, T.int_i, T.rows_l]
    rw [dec_f (by simp)]
    exact (cloneChoices (by omega) log hl _).trans rfl
  | cons x post =>
    simp only [List.length_cons] at hjl
    have hx := hj.2 x (by simp)
    have hxo := hx.1.1
    have hxy : x.yes.length ≤ 1048576 := hx.2
    refine (show impl_copyCoord_L0_0 m m _ _ _ _ _ _ _ _ _ _ _ _ _ _ _ _ _ _ _ _ _ _ _ _ _ = _ from ?_)
    conv => lhs; arg 2; rw [← hn]
    have q := ixJ [] x post
    have q' : (rJ (x :: post)).getD (Int.toNat 0) [] = x.r := rfl
    simp only [impl_copyCoord_L0_0, T.int_i, T.rows_l, q', j0, j1, j2, j3]
    rw [dec_t (by simp), dec_t (by simp), cloneOps (by omega) x.ops hxo, cloneInts (by omega) x.yes hxy]
    simp only [T.rows_l, rJ_len, show IntKind.i64.wrap (0 + 1) = 1 from wrap_i64 (by omega) (by omega)]
    have L := fun x6 x7 x8 x9 x10 x11 x12 x13 x14 x15 x16 x17 x18 x19 x20 c21 c22 => implCopy_loop m (by omega) x6 x7 x8 x9 x10 x11 x12 x13 x14 x15 x16 x17 x18 x19 x20 c21 c22 post [x] (fun p hp => hj.2 p (by simp [hp])) (by simp; omega) n (by omega)
    refine (L _ _ _ _ _ _ _ _ _ _ _ _ _ _ _ _ _ _ _).trans ?_
    simp only [T.rows_l]
    rw [cloneChoices (by omega) log hl]
    rfl
/-! words -/
def wRow (tx : Int) (ops : List DOp) (N s : Int) : List T := [.i 1, .i s, .i tx, .l (rO (opsFor ops s N)), .b false]
def wRows (tx : Int) (ops : List DOp) (N : Int) (sh : List Int) : List (List T) := sh.map (wRow tx ops N)
theorem wRows_len (tx : Int) (ops : List DOp) (N : Int) (sh : List Int) : (wRows tx ops N sh).length = sh.length := by simp [wRows]
theorem wSnoc (tx : Int) (ops : List DOp) (N : Int) (pre : List Int) (s : Int) : wRows tx ops N pre ++ [[T.i 1, T.i s, T.i tx, T.l (rO (opsFor ops s N)), T.b false]] = wRows tx ops N (pre ++ [s]) := by simp [wRows, wRow]
theorem opsFor_len (ops : List DOp) (s N : Int) : (opsFor ops s N).length ≤ ops.length := List.length_filter_le _ _
theorem specHolds_loop (m : Nat) (hm : 1050000 ≤ m) (N tx : Int) (ops : List DOp) (ho : BOps ops) (x5 x6 x7 x8 x9 x12 : T) : ∀ (post pre : List Int), pre.length + post.length ≤ 1048576 → ∀ n, post.length < n → ∀ k0,
    spec_l11Holds_L0_0 m n (.i 0) (.i 0) (.l (ir (pre ++ post))) (.i pre.length) (.i N) x5 x6 x7 x8 x9 (.i tx) (.l (rO ops)) x12 (.l []) (.l (wRows tx ops N pre)) k0 = k0 (.l (wRows tx ops N (pre ++ post)))
  | [], pre, hs, n, hn, k0 => by
    obtain ⟨n, rfl⟩ : ∃ m', n = m' + 1 := ⟨n - 1, by omega⟩
    simp only [spec_l11Holds_L0_0, T.int_i, T.rows_l]
    rw [dec_f (by simp [ir_len]), List.append_nil]
  | x :: post, pre, hs, n, hn, k0 => by
    obtain ⟨n, rfl⟩ : ∃ m', n = m' + 1 := ⟨n - 1, by omega⟩
    simp only [List.length_cons] at hs hn
    have ih := specHolds_loop m hm N tx ops ho x5 x6 x7 x8 x9 x12 post (pre ++ [x]) (by simp; omega) n (by omega) k0
    rw [len_snoc, List.append_assoc, List.singleton_append] at ih
    simp only [spec_l11Holds_L0_0, T.int_i, T.rows_l, ixI, ix_nx pre (by omega)]
    have hh := fun K => has_ok (m := m) [] x (by simp) (by omega) K
    rw [show ir [] = [] from rfl] at hh
    rw [dec_t (by simp [ir_len]; omega), dec_t (by simp [ir_len]; omega), hh]
    simp only [T.bool_b, List.not_mem_nil, decide_false, Bool.not_false, cond_true]
    rw [dec_t (by simp [ir_len]; omega), dec_t (by simp [ir_len]; omega), specFor_ok (by omega) ops x N ho, dec_t (by rw [wRows_len]; unfold maxRow; omega), T.rows_l, wSnoc]
    exact ih
theorem specHolds {m : Nat} (hm : 1050010 ≤ m) (N tx : Int) (ops : List DOp) (ho : BOps ops) (x1 x2 x5 x8 : T) (c3 c4 : List (List T)) (K : T → An) :
    spec_l11Holds m (.i N) x1 x2 (.l c3) (.l c4) x5 (.i tx) (.l (rO ops)) x8 (.l []) K = K (.l (wRows tx ops N (shardsP ops N))) := by
  obtain ⟨m, rfl⟩ : ∃ m', m = m' + 1 := ⟨m - 1, by omega⟩
  have hyl := shardsP_len ops N
  have hol := ho.1
  simp only [spec_l11Holds, T.rows_l]
  rw [specShards (by omega) ops N ho]
  exact (specHolds_loop m (by omega) N tx ops ho _ _ _ _ _ _ (shardsP ops N) [] (by simp; omega) m (by omega) _).trans rfl
theorem holdWord {m : Nat} (hm : 1048620 ≤ m) (N tx : Int) (ops : List DOp) (ho : BOps ops) (s : Int) (x1 x2 x5 : T) (c3 c4 : List (List T)) (K : T → T → T → T → T → An) :
    impl_Coord_holdWord m (.l [[.i N, x1, x2, .l c3, .l c4, x5]]) (.i tx) (.l (rO ops)) (.i s) K = K (.i 1) (.i s) (.i tx) (.l (rO (opsFor ops s N))) (.b false) := by
  obtain ⟨m, rfl⟩ : ∃ m', m = m' + 1 := ⟨m - 1, by omega⟩
  have r1 : (row1 (.l [[.i N, x1, x2, .l c3, .l c4, x5]])).getD 0 dflt = .i N := rfl
  simp only [impl_Coord_holdWord, T.rows_l, r1]
  rw [implFor_ok (by omega) ops s N ho]
  rfl
theorem implBegin_loop (m : Nat) (hm : 1050000 ≤ m) (N tx : Int) (ops : List DOp) (ho : BOps ops) (x7 x8 x9 : T) (c11 c12 : List (List T)) : ∀ (post pre : List Int), pre.length + post.length ≤ 1048576 → ∀ n, post.length < n → ∀ k0,
    impl_Coord_begin_L0_0 m n (.i 0) (.l (rO ops)) (.i tx) (.l (ir (pre ++ post))) (.i ((pre ++ post).length : Nat)) (.i pre.length) (.i N) x7 x8 x9 (.l (wRows tx ops N pre)) (.l c11) (.l c12) k0 = k0 (.i 0) (.i tx) (.i N) x7 x8 x9 (.l (wRows tx ops N (pre ++ post))) (.l c11) (.l c12)
  | [], pre, hs, n, hn, k0 => by
    obtain ⟨n, rfl⟩ : ∃ m', n = m' + 1 := ⟨n - 1, by omega⟩
    simp only [impl_Coord_begin_L0_0, T.int_i, T.rows_l]
    rw [dec_f (by simp), List.append_nil]
    rfl
  | x :: post, pre, hs, n, hn, k0 => by
    obtain ⟨n, rfl⟩ : ∃ m', n = m' + 1 := ⟨n - 1, by omega⟩
    simp only [List.length_cons] at hs hn
    have ih := implBegin_loop m hm N tx ops ho x7 x8 x9 c11 c12 post (pre ++ [x]) (by simp; omega) n (by omega) k0
    rw [len_snoc, List.append_assoc, List.singleton_append] at ih
    simp only [impl_Coord_begin_L0_0, T.int_i, T.rows_l, ixI, ix_nx pre (by omega)]
    rw [dec_t (by simp; omega), dec_t (by simp [ir_len]; omega), holdWord (by omega) N tx ops ho x, dec_t (by rw [wRows_len]; unfold maxRow; omega), T.rows_l, wSnoc]
    exact ih
/-! Begin -/
def begOk (N life next : Int) (jobs : List DJob) (log : List DChoice) (sure : Int) (ops : List DOp) : Bool :=
  coordOkP N life next jobs log sure && (opsOkP ops && (!(next == 999) && decide (log.length < 1000)))
def begTx (life next : Int) : Int := life * 1000 + next
def begNext (b : Bool) (next : Int) : Int := if b then next + 1 else next
def begJobs (b : Bool) (life next : Int) (jobs : List DJob) (ops : List DOp) : List DJob := if b then jobs ++ [⟨begTx life next, ops, 1, []⟩] else jobs
def begWords (b : Bool) (N life next : Int) (ops : List DOp) : List (List T) := if b then wRows (begTx life next) ops N (shardsP ops N) else []
def begRes (b : Bool) (life next : Int) : Int := if b then begTx life next else 0
theorem coordOk_r {N life next : Int} {jobs : List DJob} {log : List DChoice} {sure : Int} (h : coordOkP N life next jobs log sure = true) : (1 ≤ N ∧ N ≤ 8) ∧ (1 ≤ life ∧ life ≤ 900) ∧ (0 ≤ next ∧ next ≤ 999) ∧ log.length ≤ 1000 := by
  unfold coordOkP at h
  simp only [Bool.and_eq_true, decide_eq_true_eq] at h
  exact ⟨h.1, h.2.1, h.2.2.1, h.2.2.2.1⟩
theorem ge1000 (l : List DChoice) : decide ((l.length : Int) ≥ 1000) = !decide (l.length < 1000) := by
  by_cases h : l.length < 1000
  · rw [decide_eq_true h, decide_eq_false (by omega)]; rfl
  · rw [decide_eq_false h, decide_eq_true (by omega)]; rfl
theorem specBegin {m : Nat} (hm : 1050200 ≤ m) (N life next sure : Int) (jobs : List DJob) (log : List DChoice) (ops : List DOp) (hj : BJobs jobs) (hl : log.length ≤ 1048576) (ho : BOps ops) (K : T → T → T → T → T → T → T → T → An) :
    spec_Begin m (.i N) (.i life) (.i next) (.l (rJ jobs)) (.l (rC log)) (.i sure) (.l (rO ops)) K =
      K (.i N) (.i life) (.i (begNext (begOk N life next jobs log sure ops) next)) (.l (rJ (begJobs (begOk N life next jobs log sure ops) life next jobs ops))) (.l (rC log)) (.i sure) (.l (begWords (begOk N life next jobs log sure ops) N life next ops)) (.i (begRes (begOk N life next jobs log sure ops) life next)) := by
  obtain ⟨m, rfl⟩ : ∃ m', m = m' + 1 := ⟨m - 1, by omega⟩
  have hjl := hj.1
  have hol := ho.1
  simp only [spec_Begin, T.rows_l]
  rw [specCopy (by omega) _ _ _ _ jobs log hj hl, specCoord (by omega) N life next sure jobs log hj hl]
  simp only [T.bool_b, T.rows_l]
  cases hc : coordOkP N life next jobs log sure with
  | false => simp only [begOk, hc, Bool.false_and]; rfl
  | true =>
    obtain ⟨q1, q2, q3, q4⟩ := coordOk_r hc
    obtain ⟨m, rfl⟩ : ∃ m', m = m' + 1 := ⟨m - 1, by omega⟩
    have e1 : IntKind.i64.wrap (life * 1000) = life * 1000 := wrap_i64 (by omega) (by omega)
    have e2 : IntKind.i64.wrap (life * 1000 + next) = life * 1000 + next := wrap_i64 (by omega) (by omega)
    have e3 : IntKind.i64.wrap (next + 1) = next + 1 := wrap_i64 (by omega) (by omega)
    simp only [Bool.not_true, cond_false, spec_l11Begin, jn, T.rows_l, T.int_i, e1, e2, e3, rC_len, ge1000]
    rw [specOps_ok (by omega) ops ho]
    simp only [begOk, hc, T.bool_b, Bool.true_and]
    cases h1 : opsOkP ops with
    | false => rfl
    | true =>
      cases h2 : (next == 999) with
      | true => rfl
      | false =>
        by_cases h3 : log.length < 1000
        · rw [decide_eq_true h3]
          simp only [Bool.not_true, Bool.not_false, cond_false, beq_self_eq_true, cond_true, Bool.true_and]
          rw [copyOps (by omega) ops hol, dec_t (by rw [rJ_len]; unfold maxRow; omega)]
          simp only [T.rows_l]
          rw [specHolds (by omega) N _ ops ho]
          simp only [T.rows_l]
          have e := jSnoc jobs ⟨life * 1000 + next, ops, 1, []⟩
          simp only at e
          rw [show ir [] = [] from rfl] at e
          rw [e]
          rfl
        · rw [decide_eq_false h3]; rfl
theorem implBegin {m : Nat} (hm : 1050200 ≤ m) (N life next sure : Int) (jobs : List DJob) (log : List DChoice) (ops : List DOp) (hj : BJobs jobs) (hl : log.length ≤ 1048576) (ho : BOps ops) (K : T → T → T → T → T → T → T → T → An) :
    impl_Begin m (.i N) (.i life) (.i next) (.l (rJ jobs)) (.l (rC log)) (.i sure) (.l (rO ops)) K =
      K (.i N) (.i life) (.i (begNext (begOk N life next jobs log sure ops) next)) (.l (rJ (begJobs (begOk N life next jobs log sure ops) life next jobs ops))) (.l (rC log)) (.i sure) (.l (begWords (begOk N life next jobs log sure ops) N life next ops)) (.i (begRes (begOk N life next jobs log sure ops) life next)) := by
  obtain ⟨m, rfl⟩ : ∃ m', m = m' + 1 := ⟨m - 1, by omega⟩
  have hjl := hj.1
  have hol := ho.1
  have hyl := shardsP_len ops N
  simp only [impl_Begin, T.rows_l]
  rw [implCopy (by omega) _ _ _ _ jobs log hj hl, implCoord (by omega) N life next sure jobs log hj hl]
  simp only [T.bool_b, T.rows_l]
  cases hc : coordOkP N life next jobs log sure with
  | false => simp only [begOk, hc, Bool.false_and]; rfl
  | true =>
    obtain ⟨q1, q2, q3, q4⟩ := coordOk_r hc
    obtain ⟨m, rfl⟩ : ∃ m', m = m' + 1 := ⟨m - 1, by omega⟩
    have e3 : IntKind.i64.wrap (next + 1) = next + 1 := wrap_i64 (by omega) (by omega)
    simp only [Bool.not_true, cond_false, impl_Coord_begin, jn, T.rows_l, T.int_i, e3, rC_len, ge1000]
    rw [implOps_ok (by omega) ops ho]
    simp only [begOk, hc, T.bool_b, Bool.true_and]
    cases h1 : opsOkP ops with
    | false => rfl
    | true =>
      cases h2 : (next == 999) with
      | true => rfl
      | false =>
        by_cases h3 : log.length < 1000
        · rw [decide_eq_true h3]
          simp only [Bool.not_true, Bool.not_false, cond_false, beq_self_eq_true, cond_true, Bool.true_and]
          rw [nextTx (by omega) N life next _ _ _ q2 q3, cloneOps (by omega) ops hol, dec_t (by rw [rJ_len]; unfold maxRow; omega), implShards (by omega) ops N ho]
          simp only [T.rows_l, ir_len]
          refine (implBegin_loop m (by omega) N _ ops ho _ _ _ _ _ (shardsP ops N) [] (by simp; omega) m (by omega) _).trans ?_
          simp only [T.rows_l]
          have e := jSnoc jobs ⟨life * 1000 + next, ops, 1, []⟩
          simp only at e
          rw [show ir [] = [] from rfl] at e
          rw [e]
          rfl
        · rw [decide_eq_false h3]; rfl
end Go.Proofs.Ytajahiglgcogeaa

