/- A part of the proof: texts RA, RB, RC, RD, RE, RF, RG, RQ, RR, RS, RT, RU: see the last part's opening words. -/
import Derived.Test.YtjjonejgbdbnjaaP
set_option linter.unusedVariables false
set_option linter.unusedSimpArgs false
set_option linter.unnecessarySimpa false
namespace Go.Proofs.Ytjjonejgbdbnjaa
open Go Go.E Go.Proofs
theorem ix_row (pre : List (List T)) (x : List T) (post : List (List T)) : (pre ++ x :: post).getD (Int.toNat (pre.length : Int)) [] = x := by simp [List.getD]
theorem ix_nx {α : Type} (pre : List α) (h : pre.length < 4611686018427387904) : IntKind.i64.wrap ((pre.length : Int) + 1) = (pre.length : Int) + 1 := wrap_i64 (by omega) (by omega)
theorem len_snoc {α : Type} (pre : List α) (x : α) : (((pre ++ [x]).length : Nat) : Int) = (pre.length : Int) + 1 := by simp
theorem set_row (pre : List (List T)) (x y : List T) (post : List (List T)) : (pre ++ x :: post).set (Int.toNat (pre.length : Int)) y = pre ++ y :: post := by simp [List.set_append]
def ir (l : List Int) : List (List T) := l.map iRow
theorem ir_len (l : List Int) : (ir l).length = l.length := by simp [ir]
def BInts (l : List Int) : Prop := l.length ≤ 1048576
structure DOp where
  kind : Int
  key : ByteArray
  val : ByteArray
  deriving Inhabited
def DOp.r (x : DOp) : List T := [.i x.kind, .s x.key, .s x.val]
def BOp (x : DOp) : Prop := x.key.size ≤ 1048576 ∧ x.val.size ≤ 1048576
def BOps (l : List DOp) : Prop := l.length ≤ 1048576 ∧ ∀ x ∈ l, BOp x
structure DPair where
  key : ByteArray
  val : ByteArray
  deriving Inhabited
def DPair.r (x : DPair) : List T := [.s x.key, .s x.val]
structure DRec where
  kind : Int
  tx : Int
  ops : List DOp
  deriving Inhabited
def DRec.r (x : DRec) : List T := [.i x.kind, .i x.tx, .l (x.ops.map DOp.r)]
structure DShard where
  id : Int
  log : List DRec
  sure : Int
  map : List DPair
  held : List DRec
  deriving Inhabited
def DShard.r (x : DShard) : List T := [.i x.id, .l (x.log.map DRec.r), .i x.sure, .l (x.map.map DPair.r), .l (x.held.map DRec.r)]
structure DJob where
  tx : Int
  ops : List DOp
  state : Int
  yes : List Int
  deriving Inhabited
def DJob.r (x : DJob) : List T := [.i x.tx, .l (x.ops.map DOp.r), .i x.state, .l (ir x.yes)]
def BJob (x : DJob) : Prop := BOps x.ops ∧ BInts x.yes
def BJobs (l : List DJob) : Prop := l.length ≤ 1048576 ∧ ∀ x ∈ l, BJob x
structure DChoice where
  tx : Int
  yes : Bool
  deriving Inhabited
def DChoice.r (x : DChoice) : List T := [.i x.tx, .b x.yes]
structure DWord where
  kind : Int
  shard : Int
  tx : Int
  ops : List DOp
  yes : Bool
  deriving Inhabited
def DWord.r (x : DWord) : List T := [.i x.kind, .i x.shard, .i x.tx, .l (x.ops.map DOp.r), .b x.yes]
structure DOrder where
  tx : Int
  ops : List DOp
  deriving Inhabited
def DOrder.r (x : DOrder) : List T := [.i x.tx, .l (x.ops.map DOp.r)]
structure DCoord where
  n : Int
  life : Int
  next : Int
  jobs : List DJob
  log : List DChoice
  sure : Int
  deriving Inhabited
structure DWorld where
  c : DCoord
  shards : List DShard
  net : List DWord
  outs : List DWord
  begun : List DOrder
  deriving Inhabited
end Go.Proofs.Ytjjonejgbdbnjaa

namespace Go.Proofs.Ytjjonejgbdbnjaa
open Go Go.E Go.Proofs
theorem l1In_ok {m : Nat} (hm : 1 ≤ m) (x a b : Int) (k : T → An) : spec_l1In m (.i x) (.i a) (.i b) k = k (.b (decide (a ≤ x ∧ x ≤ b))) := by
  obtain ⟨m, rfl⟩ : ∃ m', m = m' + 1 := ⟨m - 1, by omega⟩
  simp only [spec_l1In, T.int_i]
  by_cases h : a ≤ x
  · rw [cond_t (by simp [h])]; simp [h]
  · rw [cond_f (by simp; omega)]; simp [h]
def isKeyB (b : UInt8) : Bool := (decide (97 ≤ b.toNat) && decide (b.toNat ≤ 122)) || (decide (48 ≤ b.toNat) && decide (b.toNat ≤ 57))
def plain (s : ByteArray) : Bool := s.data.toList.all isKeyB
def keyOkP (s : ByteArray) : Bool := plain s && decide (1 ≤ s.size ∧ s.size ≤ 12)
theorem ix_byte (pre : List UInt8) (x : UInt8) (post : List UInt8) : (pre ++ x :: post).getD (Int.toNat (pre.length : Int)) 0 = x := by simp [List.getD]
theorem l1In2 {m : Nat} (hm : 1 ≤ m) (x a b : Int) (k : T → An) : spec_l1In m (.i x) (.i a) (.i b) k = k (.b (decide (a ≤ x) && decide (x ≤ b))) := by
  rw [l1In_ok hm, Bool.decide_and]
theorem byteIn {m : Nat} (hm : 1 ≤ m) (x : UInt8) (a b : Int) (k : T → An) : spec_l1In m (.i (IntKind.i64.wrap (x.toNat : Int))) (.i a) (.i b) k = k (.b (decide (a ≤ x.toNat) && decide ((x.toNat : Int) ≤ b))) := by
  have hx := x.toNat_lt
  rw [wrap_i64 (by omega) (by omega), l1In2 hm]
theorem keyOk_loop (m : Nat) (hm : 1 ≤ m) (s : ByteArray) (hs : s.size ≤ 4611686018427387904) : ∀ (post pre : List UInt8), s.data.toList = pre ++ post →
    ∀ n, post.length < n → ∀ k0 k1, spec_KeyOk_L0_0 m n (.s s) (.i pre.length) k0 k1 = cond (post.all isKeyB) (k1 (.s s)) (k0 (.b false))
  | [], pre, e, n, hn, k0, k1 => by
    obtain ⟨n, rfl⟩ : ∃ m', n = m' + 1 := ⟨n - 1, by omega⟩
    have hz := ba_size s
    rw [e] at hz
    simp only [spec_KeyOk_L0_0, T.int_i, T.str_s]
    rw [dec_f (by simp at hz; omega)]
    rfl
  | x :: post, pre, e, n, hn, k0, k1 => by
    obtain ⟨n, rfl⟩ : ∃ m', n = m' + 1 := ⟨n - 1, by omega⟩
    have hz := ba_size s
    rw [e] at hz
    simp only [List.length_append, List.length_cons] at hz hn
    simp only [spec_KeyOk_L0_0, T.int_i, T.str_s, e, ix_byte, ix_next pre x (by omega)]
    rw [dec_t (by omega), dec_t (by omega), byteIn hm, byteIn hm, dec_t (by omega)]
    have ih := keyOk_loop m hm s hs post (pre ++ [x]) (by rw [e]; simp) n (by omega) k0 k1
    have e1 : decide ((97 : Int) ≤ x.toNat) = decide (97 ≤ x.toNat) := decide_eq_decide.2 (by omega)
    have e2 : decide ((x.toNat : Int) ≤ 122) = decide (x.toNat ≤ 122) := decide_eq_decide.2 (by omega)
    have e3 : decide ((48 : Int) ≤ x.toNat) = decide (48 ≤ x.toNat) := decide_eq_decide.2 (by omega)
    have e4 : decide ((x.toNat : Int) ≤ 57) = decide (x.toNat ≤ 57) := decide_eq_decide.2 (by omega)
    simp only [e1, e2, e3, e4, List.all_cons, isKeyB, T.bool_b, ih]
    cases (decide (97 ≤ x.toNat) && decide (x.toNat ≤ 122)) <;> cases (decide (48 ≤ x.toNat) && decide (x.toNat ≤ 57)) <;> rfl
theorem dec_nat12 (n : Nat) : (decide ((1 : Int) ≤ n) && decide ((n : Int) ≤ 12)) = decide (1 ≤ n ∧ n ≤ 12) := by
  rw [Bool.decide_and]
  congr 1 <;> exact decide_eq_decide.2 (by omega)
theorem specKeyOk_ok {m : Nat} (s : ByteArray) (hs : s.size ≤ 1048576) (hm : 1048580 ≤ m) (k : T → An) : spec_KeyOk m (.s s) k = k (.b (keyOkP s)) := by
  obtain ⟨m, rfl⟩ : ∃ m', m = m' + 1 := ⟨m - 1, by omega⟩
  have hz := ba_size s
  refine (keyOk_loop m (by omega) s (by omega) s.data.toList [] rfl m (by omega) _ _).trans ?_
  simp only [T.str_s, keyOkP, plain]
  rw [l1In2 (by omega), dec_nat12]
  cases s.data.toList.all isKeyB <;> rfl
def blt (a b : ByteArray) : Bool := Op.bytesLess a.toList b.toList
theorem bl_tri : ∀ a b : List UInt8, (Op.bytesLess a b || a == b) = !Op.bytesLess b a
  | [], [] => rfl
  | [], y :: b => rfl
  | x :: a, [] => rfl
  | x :: a, y :: b => by
    have ih := bl_tri a b
    simp only [Op.bytesLess, List.cons_beq_cons]
    rcases Nat.lt_trichotomy x.toNat y.toNat with h | h | h
    · have h1 : x < y := UInt8.lt_iff_toNat_lt.2 h
      have h2 : ¬ y < x := fun h' => by have := UInt8.lt_iff_toNat_lt.1 h'; omega
      have h3 : (x == y) = false := by simp; intro e; subst e; omega
      have h4 : (y == x) = false := by simp; intro e; subst e; omega
      simp [h1, h2, h3, h4]
    · obtain rfl : x = y := UInt8.toNat_inj.1 h
      have h2 : ¬ x < x := fun h' => by have := UInt8.lt_iff_toNat_lt.1 h'; omega
      simp only [h2, decide_false, Bool.false_or, beq_self_eq_true, Bool.true_and, ih]
    · have h1 : ¬ x < y := fun h' => by have := UInt8.lt_iff_toNat_lt.1 h'; omega
      have h2 : y < x := UInt8.lt_iff_toNat_lt.2 h
      have h3 : (x == y) = false := by simp; intro e; subst e; omega
      simp [h1, h2, h3]
end Go.Proofs.Ytjjonejgbdbnjaa

namespace Go.Proofs.Ytjjonejgbdbnjaa
open Go Go.E Go.Proofs
def hashN (h : Nat) : List UInt8 → Nat
  | [] => h
  | b :: r => hashN (((h ^^^ b.toNat) * 16777619) % 4294967296) r
theorem wrap_u32 (x : Nat) : IntKind.u32.wrap (x : Int) = ((x % 4294967296 : Nat) : Int) := by
  have e32 : (2 : Int) ^ 32 = 4294967296 := by decide
  simp only [IntKind.wrap, IntKind.bits, IntKind.signed, Bool.false_and, Bool.false_eq_true, if_false, e32]
  omega
theorem ofInt_nat (w x : Nat) : BitVec.ofInt w (x : Int) = BitVec.ofNat w x := by simp
theorem xor_lt32 {a b : Nat} (ha : a < 4294967296) (hb : b < 4294967296) : a ^^^ b < 4294967296 := Nat.xor_lt_two_pow (n := 32) ha hb
theorem step32 (h : Nat) (hh : h < 4294967296) (b : UInt8) :
    IntKind.u32.wrap ((bvBack .u32 (BitVec.ofInt IntKind.u32.bits (h : Int) ^^^ BitVec.ofInt IntKind.u32.bits (IntKind.u32.wrap (b.toNat : Int)))).int * 16777619) = ((((h ^^^ b.toNat) * 16777619) % 4294967296 : Nat) : Int) := by
  have hb := b.toNat_lt
  have e1 : b.toNat % 4294967296 = b.toNat := Nat.mod_eq_of_lt (by omega)
  have hx := xor_lt32 hh (show b.toNat < 4294967296 by omega)
  simp only [bvBack, T.int_i, wrap_u32, e1, ofInt_nat]
  have e2 : (BitVec.ofNat IntKind.u32.bits h ^^^ BitVec.ofNat IntKind.u32.bits b.toNat).toNat = h ^^^ b.toNat := by
    rw [BitVec.toNat_xor, BitVec.toNat_ofNat, BitVec.toNat_ofNat]
    show (h % 2 ^ 32) ^^^ (b.toNat % 2 ^ 32) = _
    rw [Nat.mod_eq_of_lt (by simpa using hh), Nat.mod_eq_of_lt (by omega)]
  rw [e2, Nat.mod_eq_of_lt hx, show (((h ^^^ b.toNat : Nat) : Int) * 16777619) = (((h ^^^ b.toNat) * 16777619 : Nat) : Int) by rw [Int.natCast_mul]; rfl, wrap_u32]
theorem step64 (h : Nat) (hh : h < 4294967296) (b : UInt8) :
    bvBack .i64 (BitVec.ofInt IntKind.i64.bits (IntKind.i64.wrap ((bvBack .i64 (BitVec.ofInt IntKind.i64.bits (h : Int) ^^^ BitVec.ofInt IntKind.i64.bits (IntKind.i64.wrap (b.toNat : Int)))).int * 16777619)) &&& BitVec.ofInt IntKind.i64.bits 4294967295) =
      .i ((((h ^^^ b.toNat) * 16777619) % 4294967296 : Nat) : Int) := by
  have hb := b.toNat_lt
  have hx := xor_lt32 hh (show b.toNat < 4294967296 by omega)
  rw [wrap_i64 (x := (b.toNat : Int)) (by omega) (by omega)]
  have e2 : (BitVec.ofInt IntKind.i64.bits (h : Int) ^^^ BitVec.ofInt IntKind.i64.bits (b.toNat : Int)).toNat = h ^^^ b.toNat := by
    rw [ofInt_nat, ofInt_nat, BitVec.toNat_xor, BitVec.toNat_ofNat, BitVec.toNat_ofNat]
    show (h % 2 ^ 64) ^^^ (b.toNat % 2 ^ 64) = _
    rw [Nat.mod_eq_of_lt (by omega), Nat.mod_eq_of_lt (by omega)]
  simp only [bvBack, T.int_i, e2]
  rw [wrap_i64 (x := ((h ^^^ b.toNat : Nat) : Int)) (by omega) (by omega), show (((h ^^^ b.toNat : Nat) : Int) * 16777619) = (((h ^^^ b.toNat) * 16777619 : Nat) : Int) by rw [Int.natCast_mul]; rfl,
    wrap_i64 (x := (((h ^^^ b.toNat) * 16777619 : Nat) : Int)) (by omega) (by omega)]
  have e3 : (BitVec.ofInt IntKind.i64.bits (((h ^^^ b.toNat) * 16777619 : Nat) : Int) &&& BitVec.ofInt IntKind.i64.bits 4294967295).toNat = ((h ^^^ b.toNat) * 16777619) % 4294967296 := by
    rw [ofInt_nat, show (4294967295 : Int) = ((4294967295 : Nat) : Int) from rfl, ofInt_nat, BitVec.toNat_and, BitVec.toNat_ofNat, BitVec.toNat_ofNat]
    show (((h ^^^ b.toNat) * 16777619) % 2 ^ 64) &&& (4294967295 % 2 ^ 64) = _
    rw [Nat.mod_eq_of_lt (by omega)]
    exact Nat.and_two_pow_sub_one_eq_mod _ 32
  rw [e3]
  rw [wrap_i64 (by omega) (by omega)]
theorem implHash_loop (m : Nat) (s : ByteArray) (hs : s.size ≤ 4611686018427387904) : ∀ (post pre : List UInt8) (h : Nat), h < 4294967296 → s.data.toList = pre ++ post → ∀ n, post.length < n → ∀ k0,
    impl_Hash_L0_0 m n (.s s) (.i h) (.i pre.length) k0 = k0 (.i (hashN h post : Nat))
  | [], pre, h, hh, e, n, hn, k0 => by
    obtain ⟨n, rfl⟩ : ∃ m', n = m' + 1 := ⟨n - 1, by omega⟩
    have hz := ba_size s
    rw [e] at hz
    simp only [impl_Hash_L0_0, T.int_i, T.str_s]
    rw [dec_f (by simp at hz; omega)]
    rfl
  | x :: post, pre, h, hh, e, n, hn, k0 => by
    obtain ⟨n, rfl⟩ : ∃ m', n = m' + 1 := ⟨n - 1, by omega⟩
    have hz := ba_size s
    rw [e] at hz
    simp only [List.length_append, List.length_cons] at hz hn
    simp only [impl_Hash_L0_0, T.int_i, T.str_s, e, ix_byte, ix_nx pre (by omega), step32 h hh x]
    rw [dec_t (by omega), dec_t (by omega)]
    have ih := implHash_loop m s hs post (pre ++ [x]) _ (Nat.mod_lt ((h ^^^ x.toNat) * 16777619) (by omega)) (by rw [e]; simp) n (by omega) k0
    rw [len_snoc] at ih
    exact ih
theorem specHash_loop (m : Nat) (s : ByteArray) (hs : s.size ≤ 4611686018427387904) : ∀ (post pre : List UInt8) (h : Nat), h < 4294967296 → s.data.toList = pre ++ post → ∀ n, post.length < n → ∀ k0,
    spec_Hash_L0_0 m n (.s s) (.i h) (.i pre.length) k0 = k0 (.i (hashN h post : Nat))
  | [], pre, h, hh, e, n, hn, k0 => by
    obtain ⟨n, rfl⟩ : ∃ m', n = m' + 1 := ⟨n - 1, by omega⟩
    have hz := ba_size s
    rw [e] at hz
    simp only [spec_Hash_L0_0, T.int_i, T.str_s]
    rw [dec_f (by simp at hz; omega)]
    rfl
  | x :: post, pre, h, hh, e, n, hn, k0 => by
    obtain ⟨n, rfl⟩ : ∃ m', n = m' + 1 := ⟨n - 1, by omega⟩
    have hz := ba_size s
    rw [e] at hz
    simp only [List.length_append, List.length_cons] at hz hn
    simp only [spec_Hash_L0_0, T.int_i, T.str_s, e, ix_byte, ix_nx pre (by omega), step64 h hh x]
    rw [dec_t (by omega), dec_t (by omega)]
    have ih := specHash_loop m s hs post (pre ++ [x]) _ (Nat.mod_lt ((h ^^^ x.toNat) * 16777619) (by omega)) (by rw [e]; simp) n (by omega) k0
    rw [len_snoc] at ih
    exact ih
theorem hashN_lt : ∀ (l : List UInt8) (h : Nat), h < 4294967296 → hashN h l < 4294967296
  | [], h, hh => hh
  | b :: r, h, hh => hashN_lt r _ (Nat.mod_lt _ (by omega))
def hashP (s : ByteArray) : Nat := hashN 2166136261 s.data.toList
theorem hashP_lt (s : ByteArray) : hashP s < 4294967296 := hashN_lt _ _ (by omega)
theorem implHash_ok {m : Nat} (s : ByteArray) (hs : s.size ≤ 1048576) (hm : 1048580 ≤ m) (k : T → An) : impl_Hash m (.s s) k = k (.i (hashP s : Nat)) := by
  obtain ⟨m, rfl⟩ : ∃ m', m = m' + 1 := ⟨m - 1, by omega⟩
  have hz := ba_size s
  have hl := hashP_lt s
  refine (implHash_loop m s (by omega) s.data.toList [] 2166136261 (by omega) rfl m (by omega) _).trans ?_
  rw [T.int_i]
  exact congrArg (fun x => k (T.i x)) (wrap_i64 (x := (hashP s : Nat)) (by omega) (by omega))
theorem specHash_ok {m : Nat} (s : ByteArray) (hs : s.size ≤ 1048576) (hm : 1048580 ≤ m) (k : T → An) : spec_Hash m (.s s) k = k (.i (hashP s : Nat)) := by
  obtain ⟨m, rfl⟩ : ∃ m', m = m' + 1 := ⟨m - 1, by omega⟩
  have hz := ba_size s
  exact specHash_loop m s (by omega) s.data.toList [] 2166136261 (by omega) rfl m (by omega) _
/-- ShardOf -/
def shardP (s : ByteArray) (n : Int) : Nat := if n < 1 then 0 else hashP s % n.toNat
theorem shardP_lt (s : ByteArray) (n : Int) : shardP s n < 4294967296 := by
  unfold shardP
  split
  · omega
  · exact Nat.lt_of_le_of_lt (Nat.mod_le _ _) (hashP_lt s)
theorem implShard_ok {m : Nat} (s : ByteArray) (n : Int) (hs : s.size ≤ 1048576) (hm : 1048585 ≤ m) (k : T → An) : impl_ShardOf m (.s s) (.i n) k = k (.i (shardP s n : Nat)) := by
  obtain ⟨m, rfl⟩ : ∃ m', m = m' + 1 := ⟨m - 1, by omega⟩
  simp only [impl_ShardOf, T.int_i]
  unfold shardP
  by_cases h : n < 1
  · rw [dec_t h, if_pos h]; rfl
  · obtain ⟨j, rfl⟩ : ∃ j : Nat, n = j := ⟨n.toNat, by omega⟩
    rw [dec_f h, implHash_ok s hs (by omega), if_neg h, cond_t (by simp; omega)]
    rw [T.int_i, ← Int.ofNat_tmod]; rfl
theorem specShard_ok {m : Nat} (s : ByteArray) (n : Int) (hs : s.size ≤ 1048576) (hm : 1048585 ≤ m) (k : T → An) : spec_ShardOf m (.s s) (.i n) k = k (.i (shardP s n : Nat)) := by
  obtain ⟨m, rfl⟩ : ∃ m', m = m' + 1 := ⟨m - 1, by omega⟩
  simp only [spec_ShardOf, T.int_i]
  unfold shardP
  by_cases h : n < 1
  · rw [dec_t h, if_pos h]; rfl
  · obtain ⟨j, rfl⟩ : ∃ j : Nat, n = j := ⟨n.toNat, by omega⟩
    rw [dec_f h, specHash_ok s hs (by omega), if_neg h, cond_t (by simp; omega)]
    rw [T.int_i, ← Int.ofNat_tmod]; rfl
end Go.Proofs.Ytjjonejgbdbnjaa

namespace Go.Proofs.Ytjjonejgbdbnjaa
open Go Go.E Go.Proofs
/-! lists of numbers in order, each once -/
theorem sorted_ext : ∀ {l l' : List Int}, l.Pairwise (· < ·) → l'.Pairwise (· < ·) → (∀ x, x ∈ l ↔ x ∈ l') → l = l'
  | [], [], _, _, _ => rfl
  | [], b :: l', _, _, h => by have := (h b).2 (by simp); cases this
  | a :: l, [], _, _, h => by have := (h a).1 (by simp); cases this
  | a :: l, b :: l', h1, h2, h => by
    rw [List.pairwise_cons] at h1 h2
    have hab : a = b := by
      have ha := (h a).1 (by simp)
      have hb := (h b).2 (by simp)
      rcases List.mem_cons.1 ha with e | ha
      · exact e
      · rcases List.mem_cons.1 hb with e | hb
        · exact e.symm
        · have := h1.1 b hb; have := h2.1 a ha; omega
    subst hab
    congr 1
    refine sorted_ext h1.2 h2.2 fun x => ⟨fun hx => ?_, fun hx => ?_⟩
    · rcases List.mem_cons.1 ((h x).1 (List.mem_cons_of_mem _ hx)) with e | hx'
      · subst e; have := h1.1 x hx; omega
      · exact hx'
    · rcases List.mem_cons.1 ((h x).2 (List.mem_cons_of_mem _ hx)) with e | hx'
      · subst e; have := h2.1 x hx; omega
      · exact hx'
/-- where a number goes: 'r': what is ahead, the last first -/
def putS (n : Int) : List Int → List Int → List Int
  | [], s => n :: s
  | p :: r, s => if p > n then putS n r (p :: s) else (p :: r).reverse ++ n :: s
theorem putS_mem (n x : Int) : ∀ (r s : List Int), x ∈ putS n r s ↔ x = n ∨ x ∈ r ∨ x ∈ s
  | [], s => by simp [putS]
  | p :: r, s => by
    unfold putS
    split
    · rw [putS_mem n x r (p :: s)]; simp only [List.mem_cons]; grind
    · simp only [List.mem_append, List.mem_reverse, List.mem_cons]; grind
theorem putS_sorted (n : Int) : ∀ (r s : List Int), (r.reverse ++ s).Pairwise (· < ·) → n ∉ r → (∀ x ∈ s, n < x) → (putS n r s).Pairwise (· < ·)
  | [], s, h, _, hs => by
    simp only [putS, List.pairwise_cons]
    exact ⟨hs, by simpa using h⟩
  | p :: r, s, h, hn, hs => by
    simp only [List.mem_cons, not_or] at hn
    unfold putS
    split
    · rename_i hp
      refine putS_sorted n r (p :: s) (by simpa using h) hn.2 fun x hx => ?_
      rcases List.mem_cons.1 hx with rfl | hx
      · exact hp
      · exact hs x hx
    · rename_i hp
      rw [List.pairwise_append] at h ⊢
      have h0 := h.1
      rw [List.reverse_cons, List.pairwise_append] at h0
      refine ⟨h.1, List.pairwise_cons.2 ⟨hs, h.2.1⟩, fun a ha b hb => ?_⟩
      have hpn : p < n := by omega
      have hap : a ≤ p := by
        rw [List.reverse_cons, List.mem_append] at ha
        rcases ha with ha | ha
        · have := h0.2.2 a ha p (by simp); omega
        · have : a = p := by simpa using ha
          omega
      rcases List.mem_cons.1 hb with rfl | hb
      · omega
      · have := hs b hb; omega
def putU (l : List Int) (n : Int) : List Int := if n ∈ l then l else putS n l.reverse []
theorem putU_mem (l : List Int) (n x : Int) : x ∈ putU l n ↔ x = n ∨ x ∈ l := by
  unfold putU
  split
  · grind
  · rw [putS_mem]; simp
theorem putU_sorted (l : List Int) (n : Int) (h : l.Pairwise (· < ·)) : (putU l n).Pairwise (· < ·) := by
  unfold putU
  split
  · exact h
  · exact putS_sorted n _ _ (by simpa using h) (by simpa using ‹_›) (fun x h => (nomatch h))
def foldU : List Int → List Int → List Int
  | acc, [] => acc
  | acc, x :: xs => foldU (putU acc x) xs
theorem foldU_mem (y : Int) : ∀ (xs acc : List Int), y ∈ foldU acc xs ↔ y ∈ acc ∨ y ∈ xs
  | [], acc => by simp [foldU]
  | x :: xs, acc => by
    simp only [foldU]
    rw [foldU_mem y xs, putU_mem]; simp only [List.mem_cons]; grind
theorem foldU_sorted : ∀ (xs acc : List Int), acc.Pairwise (· < ·) → (foldU acc xs).Pairwise (· < ·)
  | [], acc, h => h
  | x :: xs, acc, h => foldU_sorted xs _ (putU_sorted acc x h)
theorem putS_len (n : Int) : ∀ (r s : List Int), (putS n r s).length = r.length + s.length + 1
  | [], s => by simp [putS]
  | p :: r, s => by
    unfold putS
    split
    · rw [putS_len n r (p :: s)]; simp; omega
    · simp; omega
theorem putU_len (l : List Int) (n : Int) : (putU l n).length ≤ l.length + 1 := by
  unfold putU
  split
  · omega
  · rw [putS_len]; simp
theorem foldU_len : ∀ (xs acc : List Int), (foldU acc xs).length ≤ acc.length + xs.length
  | [], acc => by simp [foldU]
  | x :: xs, acc => by
    have := foldU_len xs (putU acc x)
    have := putU_len acc x
    simp only [foldU, List.length_cons]; omega
/-- what Compact leaves of a list in order -/
theorem compact_go (d : Array Int) (hs : ∀ i j, i ≤ j → j < d.size → d[i]! ≤ d[j]!) : ∀ m, m ≤ d.size → (Lib.compactUpTo d m).Pairwise (· < ·) ∧ (∀ x, x ∈ Lib.compactUpTo d m ↔ ∃ j, j < m ∧ d[j]! = x)
  | 0, _ => by simp [Lib.compactUpTo]
  | m + 1, hm => by
    obtain ⟨h1, h2⟩ := compact_go d hs m (by omega)
    rw [Lib.compactUpTo_succ]
    cases hk : Lib.keeps d m with
    | true =>
      simp only [if_true]
      refine ⟨List.pairwise_append.2 ⟨h1, by simp, fun a ha b hb => ?_⟩, fun x => ?_⟩
      · have : b = d[m]! := by simpa using hb
        subst this
        obtain ⟨j, hj, rfl⟩ := (h2 a).1 ha
        have hk := of_decide_eq_true hk
        have e1 := hs j (m - 1) (by omega) (by omega)
        have e2 := hs (m - 1) m (by omega) (by omega)
        have e3 : d[m]! ≠ d[m - 1]! := hk.resolve_left (by omega)
        omega
      · rw [List.mem_append, h2]
        constructor
        · rintro (⟨j, hj, e⟩ | e)
          · exact ⟨j, by omega, e⟩
          · exact ⟨m, by omega, (List.mem_singleton.1 e).symm⟩
        · rintro ⟨j, hj, e⟩
          by_cases h : j = m
          · subst h; right; simp [e]
          · left; exact ⟨j, by omega, e⟩
    | false =>
      have hk := of_decide_eq_false hk
      simp only [not_or, Decidable.not_not] at hk
      simp only [Bool.false_eq_true, if_false, List.append_nil]
      refine ⟨h1, fun x => ?_⟩
      rw [h2]
      constructor
      · rintro ⟨j, hj, e⟩; exact ⟨j, by omega, e⟩
      · rintro ⟨j, hj, e⟩
        by_cases h : j = m
        · subst h; exact ⟨j - 1, by omega, by rw [← hk.2]; exact e⟩
        · exact ⟨j, by omega, e⟩
theorem shards_eq (xs : List Int) : Lib.compact (xs.mergeSort fun x y => decide (x ≤ y)) = foldU [] xs := by
  have hp := List.pairwise_mergeSort (le := fun x y : Int => decide (x ≤ y)) (by intro a b c h1 h2; simp at *; omega) (by intro a b; simp; omega) xs
  have hperm := List.mergeSort_perm xs fun x y => decide (x ≤ y)
  obtain ⟨h1, h2⟩ := compact_go (xs.mergeSort fun x y => decide (x ≤ y)).toArray (fun i j hij hj => by
    simp only [List.size_toArray] at hj
    rw [getElem!_pos _ i (by simp only [List.size_toArray]; omega), getElem!_pos _ j (by simp only [List.size_toArray]; omega)]
    by_cases h : i = j
    · subst h; omega
    · have := List.pairwise_iff_getElem.1 hp i j (by omega) hj (by omega)
      simpa using this) (xs.mergeSort fun x y => decide (x ≤ y)).length (by simp)
  refine sorted_ext h1 (foldU_sorted xs [] (by simp)) fun x => ?_
  show x ∈ Lib.compactUpTo _ _ ↔ _
  rw [h2, foldU_mem]
  simp only [List.not_mem_nil, false_or]
  rw [← hperm.mem_iff (a := x)]
  constructor
  · rintro ⟨j, hj, e⟩
    rw [getElem!_pos _ j (by simpa using hj)] at e
    rw [← e]; simp
  · intro hx
    obtain ⟨j, hj, e⟩ := List.mem_iff_getElem.1 hx
    exact ⟨j, hj, by rw [getElem!_pos _ j (by simpa using hj)]; simpa using e⟩
end Go.Proofs.Ytjjonejgbdbnjaa

namespace Go.Proofs.Ytjjonejgbdbnjaa
open Go Go.E Go.Proofs
/-! the functions on lists of numbers -/
theorem ir_app (a b : List Int) : ir (a ++ b) = ir a ++ ir b := by simp [ir]
theorem ir_cons (x : Int) (b : List Int) : ir (x :: b) = iRow x :: ir b := rfl
theorem ir_one (x : Int) : [[T.i x]] = ir [x] := rfl
theorem has_loop (m : Nat) (x : Int) : ∀ (post pre : List Int), pre.length + post.length ≤ 4611686018427387 → ∀ n, post.length < n → ∀ k0 k1,
    spec_l7Has_L0_0 m n (.l (ir (pre ++ post))) (.i x) (.i pre.length) k0 k1 = cond (decide (x ∈ post)) (k0 (.b true)) k1
  | [], pre, hs, n, hn, k0, k1 => by
    obtain ⟨n, rfl⟩ : ∃ m', n = m' + 1 := ⟨n - 1, by omega⟩
    simp only [spec_l7Has_L0_0, T.int_i, T.rows_l]
    rw [dec_f (by simp [ir_len]), dec_f (by simp)]
  | y :: post, pre, hs, n, hn, k0, k1 => by
    obtain ⟨n, rfl⟩ : ∃ m', n = m' + 1 := ⟨n - 1, by omega⟩
    simp only [List.length_cons] at hs hn
    have ih := has_loop m x post (pre ++ [y]) (by simp; omega) n (by omega) k0 k1
    have e1 : (ir (pre ++ y :: post)).getD (Int.toNat (pre.length : Int)) [] = iRow y := by
      have := ix_row (ir pre) (iRow y) (ir post)
      rw [ir_len] at this
      rw [ir_app, ir_cons]; exact this
    simp only [spec_l7Has_L0_0, T.int_i, T.rows_l, e1, ix_nx pre (by omega)]
    rw [dec_t (by simp [ir_len]; omega), dec_t (by simp [ir_len]; omega)]
    simp only [List.append_assoc, List.cons_append, List.nil_append, len_snoc] at ih
    simp only [iRow, List.getD_cons_zero, T.int_i]
    by_cases h : y = x
    · subst h
      rw [cond_t (by simp), dec_t (by simp)]
    · rw [cond_f (beq_eq_false_iff_ne.2 h), ih]
      by_cases h2 : x ∈ post
      · rw [dec_t h2, dec_t (by simp [h2])]
      · rw [dec_f h2, dec_f (by simp [h2, Ne.symm h])]
theorem has_ok {m : Nat} (l : List Int) (x : Int) (hl : l.length ≤ 1048576) (hm : 1048580 ≤ m) (k : T → An) : spec_l7Has m (.l (ir l)) (.i x) k = k (.b (decide (x ∈ l))) := by
  obtain ⟨m, rfl⟩ : ∃ m', m = m' + 1 := ⟨m - 1, by omega⟩
  refine (has_loop m x l [] (by simp; omega) m (by omega) _ _).trans ?_
  by_cases h : x ∈ l
  · rw [dec_t h, decide_eq_true h]
  · rw [dec_f h, decide_eq_false h]
theorem mid_get (a : List Int) (x : Int) (b : List (List T)) : (ir a ++ iRow x :: b).getD a.length [] = iRow x := by
  rw [← ir_len a]; simp [List.getD]
theorem mid_set (a : List Int) (x : List T) (y : List T) (b : List (List T)) : (ir a ++ x :: b).set a.length y = ir a ++ y :: b := by
  rw [← ir_len a]; simp [List.set_append]
def putEnd (k : T → An) : T → T → T → An := fun y1 y2 y3 => cond (decide ((0 : Int) ≤ y2.int ∧ y2.int < (y3.rows.length : Int)))
    (cond (decide ((Int.toNat y2.int) < y3.rows.length))
    (k (T.l (y3.rows.set (Int.toNat y2.int) ((y3.rows.getD (Int.toNat y2.int) []).set 0 y1))))
    (.bad))
    (.bad)
theorem putEnd_ok (k : T → An) (a : List Int) (x z : Int) (s : List Int) : putEnd k (.i x) (.i a.length) (.l (ir a ++ iRow z :: ir s)) = k (.l (ir (a ++ x :: s))) := by
  simp only [putEnd, T.int_i, T.rows_l, Int.toNat_natCast]
  rw [dec_t (by simp [ir_len]; omega), dec_t (by simp [ir_len]), mid_get, mid_set, ir_app, ir_cons]
  rfl
theorem put_loop (m : Nat) (x : Int) (k : T → An) : ∀ (r s : List Int) (z : Int), r.length + s.length ≤ 4611686018427387 → ∀ n, r.length < n →
    spec_l7Put_L0_0 m n (.i x) (.i r.length) (.l (ir r.reverse ++ iRow z :: ir s)) (putEnd k) = k (.l (ir (putS x r s)))
  | [], s, z, hs, n, hn => by
    obtain ⟨n, rfl⟩ : ∃ m', n = m' + 1 := ⟨n - 1, by omega⟩
    simp only [spec_l7Put_L0_0, jn, T.int_i, T.rows_l, List.length_nil, List.reverse_nil]
    rw [cond_f (by simp)]
    exact putEnd_ok k [] x z s
  | p :: r, s, z, hs, n, hn => by
    obtain ⟨n, rfl⟩ : ∃ m', n = m' + 1 := ⟨n - 1, by omega⟩
    simp only [List.length_cons] at hs hn
    have ih := put_loop m x k r (p :: s) p (by simp; omega) n (by omega)
    have e0 : IntKind.i64.wrap (((r.length + 1 : Nat) : Int) - 1) = (r.length : Int) := by rw [wrap_i64 (by omega) (by omega)]; omega
    have e1 : ir (p :: r).reverse ++ iRow z :: ir s = ir r.reverse ++ iRow p :: iRow z :: ir s := by
      rw [List.reverse_cons, ir_app]; simp [ir]
    have e2 : (ir r.reverse ++ iRow p :: iRow z :: ir s).getD r.length [] = iRow p := by
      have := mid_get r.reverse p (iRow z :: ir s)
      rwa [List.length_reverse] at this
    have e4 : (ir r.reverse ++ iRow p :: iRow z :: ir s).getD (r.length + 1) [] = iRow z := by
      have := mid_get (r.reverse ++ [p]) z (ir s)
      rw [ir_app] at this
      simpa [ir] using this
    have e5 : (ir r.reverse ++ iRow p :: iRow z :: ir s).set (r.length + 1) (iRow p) = ir r.reverse ++ iRow p :: ir (p :: s) := by
      have := mid_set (r.reverse ++ [p]) (iRow z) (iRow p) (ir s)
      rw [ir_app] at this
      simpa [ir] using this
    have e6 : (ir r.reverse ++ iRow p :: iRow z :: ir s).length = r.length + s.length + 2 := by simp [ir_len]; omega
    simp only [spec_l7Put_L0_0, jn, T.int_i, T.rows_l, List.length_cons, e0, e1, Int.toNat_natCast, e2, e4, e6]
    rw [cond_t (by simp), dec_t (by omega), dec_t (by omega)]
    have e7 : ((iRow p).getD 0 dflt).int = p := rfl
    have e8 : (iRow z).set 0 ((iRow p).getD 0 dflt) = iRow p := rfl
    rw [e7, e8]
    unfold putS
    by_cases hp : p > x
    · rw [dec_t hp, dec_t (by omega), dec_t (by omega), dec_t (by omega), dec_t (by omega), e5, if_pos hp]
      exact ih
    · rw [dec_f hp, if_neg hp, ← e1]
      have := putEnd_ok k (p :: r).reverse x z s
      rw [List.length_reverse, List.length_cons] at this
      exact this
theorem put_ok {m : Nat} (l : List Int) (x : Int) (hl : l.length ≤ 1048576) (hm : 1048600 ≤ m) (k : T → An) : spec_l7Put m (.l (ir l)) (.i x) k = k (.l (ir (putU l x))) := by
  obtain ⟨m, rfl⟩ : ∃ m', m = m' + 1 := ⟨m - 1, by omega⟩
  simp only [spec_l7Put, T.rows_l, ir_len]
  rw [has_ok l x hl (by omega)]
  simp only [T.bool_b]
  unfold putU
  by_cases h : x ∈ l
  · rw [dec_t h, if_pos h]
  · rw [dec_f h, if_neg h, dec_t (by unfold maxRow; omega), dec_t (by unfold maxRow; omega)]
    have e1 : IntKind.i64.wrap (((ir l ++ [[T.i x]]).length : Nat) - 1 : Int) = (l.reverse.length : Int) := by
      rw [wrap_i64 (by first | (simp [ir_len]; done) | (simp [ir_len]; omega)) (by first | (simp [ir_len]; done) | (simp [ir_len]; omega))]; simp [ir_len]
    rw [e1]
    have := put_loop m x k l.reverse [] x (by simp; omega) m (by simp; omega)
    rw [List.reverse_reverse] at this
    exact this
/-! shards of operations -/
def opsSh (ops : List (List T)) (n : Int) : List Int := ops.map fun r => ((shardP (r.getD 1 dflt).str n : Nat) : Int)
def OpRow (r : List T) : Prop := ∃ (a : Int) (x y : ByteArray), r = [.i a, .s x, .s y] ∧ x.size ≤ 1048576
theorem specSh_loop (m : Nat) (hm : 1048700 ≤ m) (x1 : Int) (k1 : T → An) : ∀ (post pre : List (List T)) (acc : List Int), (∀ r ∈ post, OpRow r) → acc.length + post.length ≤ 1048576 → pre.length + post.length ≤ 1048576 → ∀ n, post.length < n → ∀ k0,
    spec_ShardsOf_L0_1 m n (.l (pre ++ post)) (.i x1) (.l (ir acc)) (.i pre.length) k0 k1 = k0 (.l (ir (foldU acc (opsSh post x1))))
  | [], pre, acc, _, hs, hs2, n, hn, k0 => by
    obtain ⟨n, rfl⟩ : ∃ m', n = m' + 1 := ⟨n - 1, by omega⟩
    simp only [spec_ShardsOf_L0_1, T.int_i, T.rows_l]
    rw [dec_f (by simp)]
    rfl
  | x :: post, pre, acc, ho, hs, hs2, n, hn, k0 => by
    obtain ⟨n, rfl⟩ : ∃ m', n = m' + 1 := ⟨n - 1, by omega⟩
    simp only [List.length_cons] at hs hs2 hn
    obtain ⟨a, key, val, rfl, hk⟩ := ho x (by simp)
    have hpl := putU_len acc ((shardP key x1 : Nat) : Int)
    have ih := specSh_loop m hm x1 k1 post (pre ++ [[.i a, .s key, .s val]]) (putU acc ((shardP key x1 : Nat) : Int)) (fun r hr => ho r (by simp [hr])) (by omega) (by simp; omega) n (by omega) k0
    simp only [spec_ShardsOf_L0_1, T.int_i, T.rows_l, ix_row, ix_nx pre (by omega), List.drop_succ_cons, List.drop_zero, List.getD_cons_zero]
    rw [dec_t (by simp; omega), dec_t (by simp; omega), specShard_ok key x1 hk (by omega), put_ok acc _ (by omega) (by omega)]
    simp only [List.append_assoc, List.cons_append, List.nil_append, len_snoc] at ih
    simp only [T.rows_l]
    exact ih
theorem specSh_ok {m : Nat} (ops : List (List T)) (n : Int) (ho : ∀ r ∈ ops, OpRow r) (hl : ops.length ≤ 1048576) (hm : 1048710 ≤ m) (k : T → An) : spec_ShardsOf m (.l ops) (.i n) k = k (.l (ir (foldU [] (opsSh ops n)))) := by
  obtain ⟨m, rfl⟩ : ∃ m', m = m' + 1 := ⟨m - 1, by omega⟩
  obtain ⟨m', rfl⟩ : ∃ m', m = m' + 1 := ⟨m - 1, by omega⟩
  simp only [spec_ShardsOf, T.rows_l]
  cases ops with
  | nil =>
    simp only [spec_ShardsOf_L0_0, T.int_i, T.rows_l]
    rw [dec_f (by simp)]
    rfl
  | cons x post =>
    simp only [List.length_cons] at hl
    obtain ⟨a, key, val, rfl, hk⟩ := ho x (by simp)
    have hpl := putU_len [] ((shardP key n : Nat) : Int)
    simp only [List.length_nil] at hpl
    have e := specSh_loop (m' + 1) (by omega) n (fun y5 => k (T.l y5.rows)) post [[.i a, .s key, .s val]] (putU [] ((shardP key n : Nat) : Int)) (fun r hr => ho r (by simp [hr])) (by omega) (by simp; omega) m' (by omega) (fun y4 => k (T.l y4.rows))
    simp only [spec_ShardsOf_L0_0, T.int_i, T.rows_l, List.length_cons]
    rw [dec_t (by omega), dec_t (by omega)]
    have e1 : ([.i a, .s key, .s val] :: post).getD (Int.toNat 0) [] = [.i a, .s key, .s val] := rfl
    rw [e1]
    simp only [List.drop_succ_cons, List.drop_zero, List.getD_cons_zero]
    rw [specShard_ok key n hk (by omega)]
    have e2 := put_ok (m := m' + 1) [] ((shardP key n : Nat) : Int) (by simp) (by omega)
    have e3 : (T.l [] : T) = .l (ir []) := rfl
    rw [e3, e2]
    simp only [T.rows_l]
    have e4 : IntKind.i64.wrap (0 + 1) = (([[T.i a, .s key, .s val]].length : Nat) : Int) := (by decide : IntKind.i64.wrap (0 + 1) = ((1 : Nat) : Int))
    rw [e4]
    exact e
end Go.Proofs.Ytjjonejgbdbnjaa

namespace Go.Proofs.Ytjjonejgbdbnjaa
open Go Go.E Go.Proofs
/-! orders, typed -/
abbrev rO (l : List DOp) : List (List T) := l.map DOp.r
theorem rO_len (l : List DOp) : (rO l).length = l.length := by simp
def shardsP (ops : List DOp) (n : Int) : List Int := foldU [] (ops.map fun o => ((shardP o.key n : Nat) : Int))
theorem opsSh_t (ops : List DOp) (n : Int) : opsSh (rO ops) n = ops.map fun o => ((shardP o.key n : Nat) : Int) := by
  unfold opsSh; rw [List.map_map]; rfl
theorem BOps.rows {l : List DOp} (h : BOps l) : ∀ r ∈ rO l, OpRow r := fun r hr => by
  obtain ⟨o, ho, rfl⟩ := List.mem_map.1 hr
  exact ⟨o.kind, o.key, o.val, rfl, (h.2 o ho).1⟩
theorem specShards {m : Nat} (hm : 1048710 ≤ m) (ops : List DOp) (n : Int) (h : BOps ops) (k : T → An) : spec_ShardsOf m (.l (rO ops)) (.i n) k = k (.l (ir (shardsP ops n))) := by
  rw [specSh_ok (rO ops) n h.rows (by rw [rO_len]; exact h.1) hm, opsSh_t]; rfl
theorem ixO (pre : List DOp) (x : DOp) (post : List DOp) : (rO (pre ++ x :: post)).getD (Int.toNat (pre.length : Int)) [] = x.r := by simp [List.getD]
theorem ixO1 (pre : List DOp) (q x : DOp) (post : List DOp) : (rO (pre ++ q :: x :: post)).getD (Int.toNat (pre.length : Int)) [] = q.r := by simp [List.getD]
theorem o0 (x : DOp) : x.r.getD 0 dflt = .i x.kind := rfl
theorem o1 (x : DOp) : x.r.getD 1 dflt = .s x.key := rfl
theorem o2 (x : DOp) : x.r.getD 2 dflt = .s x.val := rfl
theorem od1 (x : DOp) : (x.r.drop 1).getD 0 dflt = .s x.key := rfl
theorem o_eta (x : DOp) : [T.i x.kind, T.s x.key, T.s x.val] = x.r := rfl
/-! which are right -/
def emp : ByteArray := ⟨#[]⟩
theorem emp_size {s : ByteArray} (h : (s.toList == emp.toList) = true) : s.size = 0 := by
  have h1 : s.toList = emp.toList := by simpa using h
  have h2 : s.data.toList = emp.data.toList := by rw [ByteArray.toList_eq, ByteArray.toList_eq] at h1; exact h1
  rw [ba_size, h2]; rfl
def opOkP (o : DOp) : Bool := if o.kind = 1 ∨ o.kind = 3 then keyOkP o.key && decide (o.val.size ≤ 20) else if o.kind = 2 then keyOkP o.key && (o.val.toList == emp.toList) else false
theorem specOp_ok {m : Nat} (hm : 1048590 ≤ m) (o : DOp) (ho : BOp o) (k : T → An) : spec_l7Op m (.i o.kind) (.s o.key) (.s o.val) k = k (.b (opOkP o)) := by
  obtain ⟨m, rfl⟩ : ∃ m', m = m' + 1 := ⟨m - 1, by omega⟩
  have e20 : decide ((o.val.size : Int) ≤ 20) = decide (o.val.size ≤ 20) := decide_eq_decide.2 (by omega)
  simp only [spec_l7Op, T.int_i, T.str_s, show (⟨#[]⟩ : ByteArray) = emp from rfl]
  rw [l1In_ok (by omega)]
  simp only [T.bool_b]
  unfold opOkP
  by_cases h1 : o.kind = 1 ∨ o.kind = 3
  · rw [if_pos h1, decide_eq_true (by omega), cond_t (by rfl), cond_f (by simp; omega), specKeyOk_ok o.key ho.1 (by omega)]
    simp only [T.bool_b, e20]
    cases keyOkP o.key <;> rfl
  · rw [if_neg h1]
    by_cases h2 : o.kind = 2
    · rw [if_pos h2, decide_eq_true (by omega), cond_t (by rfl), cond_t (by simp [h2])]
      cases he : o.val.toList == emp.toList with
      | false => simp
      | true =>
        have := emp_size he
        simp only [Bool.not_true, cond_false]
        rw [specKeyOk_ok o.key ho.1 (by omega)]
        simp only [T.bool_b, e20, this]
        cases keyOkP o.key <;> rfl
    · rw [if_neg h2, decide_eq_false (by omega)]
      rfl
def opsGo : Option DOp → List DOp → Bool
  | _, [] => true
  | q, p :: ps => opOkP p && (match q with | none => true | some q => blt q.key p.key) && opsGo (some p) ps
def opsOkP (l : List DOp) : Bool := opsGo none l && decide (1 ≤ l.length ∧ l.length ≤ 8)
theorem blt_not (a b : ByteArray) : (!(Op.bytesLess a.toList b.toList)) = (Op.bytesLess b.toList a.toList || b.toList == a.toList) := (bl_tri b.toList a.toList).symm
theorem specOps_loop (m : Nat) (hm : 1048590 ≤ m) : ∀ (post pre : List DOp), (∀ p ∈ post, BOp p) → pre.length + post.length ≤ 1048576 → ∀ n, post.length < n → ∀ k0 k1,
    spec_OpsOk_L0_0 m n (.l (rO (pre ++ post))) (.i pre.length) k0 k1 = cond (opsGo pre.getLast? post) (k1 (.l (rO (pre ++ post)))) (k0 (.b false))
  | [], pre, ho, hs, n, hn, k0, k1 => by
    obtain ⟨n, rfl⟩ : ∃ m', n = m' + 1 := ⟨n - 1, by omega⟩
    simp only [spec_OpsOk_L0_0, T.int_i, T.rows_l]
    rw [dec_f (by simp)]
    rfl
  | x :: post, pre, ho, hs, n, hn, k0, k1 => by
    obtain ⟨n, rfl⟩ : ∃ m', n = m' + 1 := ⟨n - 1, by omega⟩
    simp only [List.length_cons] at hs hn
    have ih := specOps_loop m hm post (pre ++ [x]) (fun p hp => ho p (by simp [hp])) (by simp; omega) n (by omega) k0 k1
    rw [len_snoc, List.append_assoc, List.singleton_append, List.getLast?_concat] at ih
    simp only [spec_OpsOk_L0_0, T.int_i, T.rows_l, ixO, ix_nx pre (by omega), o0, o1, o2, od1]
    rw [dec_t (by simp; omega), dec_t (by simp; omega), specOp_ok (by omega) x (ho x (by simp))]
    simp only [opsGo, T.bool_b]
    cases h : opOkP x with
    | false => rfl
    | true =>
      rcases List.eq_nil_or_concat pre with rfl | ⟨pre, q, rfl⟩
      · simpa using ih
      · simp only [List.concat_eq_append] at hs ih ⊢
        simp only [List.length_append, List.length_singleton, List.length_cons, List.length_nil] at hs
        have e : IntKind.i64.wrap (((pre ++ [q]).length : Int) - 1) = (pre.length : Int) := by rw [wrap_i64 (by omega) (by simp; omega)]; simp
        simp only [e, List.append_assoc, List.singleton_append, ixO1, od1, T.str_s, List.getLast?_concat]
        rw [cond_t (by rfl : ((!true) == false) = true), cond_t (by simp <;> omega), dec_t (by simp <;> omega), dec_t (by simp <;> omega)]
        simp only [List.append_assoc, List.singleton_append] at ih
        unfold blt
        cases hb : Op.bytesLess q.key.toList x.key.toList with
        | false => rfl
        | true => simpa using ih
theorem len8 (l : List DOp) : decide ((1 : Int) ≤ (l.length : Int) ∧ (l.length : Int) ≤ 8) = decide (1 ≤ l.length ∧ l.length ≤ 8) := decide_eq_decide.2 (by omega)
theorem specOps_ok {m : Nat} (hm : 1048600 ≤ m) (l : List DOp) (h : BOps l) (K : T → An) : spec_OpsOk m (.l (rO l)) K = K (.b (opsOkP l)) := by
  obtain ⟨m, rfl⟩ : ∃ m', m = m' + 1 := ⟨m - 1, by omega⟩
  have hl := h.1
  simp only [spec_OpsOk, T.rows_l]
  refine (specOps_loop m (by omega) l [] h.2 (by simpa using hl) m (by omega) _ _).trans ?_
  simp only [List.nil_append, List.getLast?_nil, T.rows_l, rO_len, opsOkP]
  rw [l1In_ok (by omega), len8]
  cases opsGo none l <;> rfl
/-! those of a shard -/
def opsFor (l : List DOp) (s n : Int) : List DOp := l.filter fun o => ((shardP o.key n : Nat) : Int) == s
theorem specFor_loop (m : Nat) (hm : 1048600 ≤ m) (s N : Int) : ∀ (post pre acc : List DOp), (∀ p ∈ post, BOp p) → pre.length + post.length ≤ 1048576 → acc.length + post.length ≤ 1048576 → ∀ n, post.length < n → ∀ k0,
    spec_OpsFor_L0_0 m n (.l (rO (pre ++ post))) (.i s) (.i N) (.i pre.length) (.l (rO acc)) k0 = k0 (.l (rO (acc ++ opsFor post s N)))
  | [], pre, acc, ho, hs, ha, n, hn, k0 => by
    obtain ⟨n, rfl⟩ : ∃ m', n = m' + 1 := ⟨n - 1, by omega⟩
    simp only [spec_OpsFor_L0_0, T.int_i, T.rows_l]
    rw [dec_f (by simp)]
    simp [opsFor]
  | x :: post, pre, acc, ho, hs, ha, n, hn, k0 => by
    obtain ⟨n, rfl⟩ : ∃ m', n = m' + 1 := ⟨n - 1, by omega⟩
    simp only [List.length_cons] at hs hn ha
    have hx := ho x (by simp)
    have ih := fun acc ha => specFor_loop m hm s N post (pre ++ [x]) acc (fun p hp => ho p (by simp [hp])) (by simp; omega) ha n (by omega) k0
    rw [len_snoc, List.append_assoc, List.singleton_append] at ih
    simp only [spec_OpsFor_L0_0, T.int_i, T.rows_l, ixO, ix_nx pre (by omega), o0, o1, o2, od1, o_eta]
    rw [dec_t (by simp; omega), dec_t (by simp; omega), specShard_ok x.key N hx.1 (by omega)]
    simp only [T.int_i]
    unfold opsFor
    cases h : (((shardP x.key N : Nat) : Int) == s) with
    | false =>
      rw [cond_false, ih acc (by omega), List.filter_cons_of_neg (by simpa using h)]; rfl
    | true =>
      rw [cond_true, dec_t (by simp; omega), dec_t (by rw [rO_len]; unfold maxRow; omega)]
      have e : rO acc ++ [x.r] = rO (acc ++ [x]) := by simp
      rw [e, ih (acc ++ [x]) (by simp; omega), List.filter_cons_of_pos (by simpa using h), List.append_assoc]; rfl
theorem specFor_ok {m : Nat} (hm : 1048610 ≤ m) (l : List DOp) (s N : Int) (h : BOps l) (K : T → An) : spec_OpsFor m (.l (rO l)) (.i s) (.i N) K = K (.l (rO (opsFor l s N))) := by
  obtain ⟨m, rfl⟩ : ∃ m', m = m' + 1 := ⟨m - 1, by omega⟩
  have hl := h.1
  simp only [spec_OpsFor, T.rows_l]
  exact (specFor_loop m (by omega) s N l [] [] h.2 (by simpa using hl) (by simpa using hl) m (by omega) _).trans rfl
end Go.Proofs.Ytjjonejgbdbnjaa

namespace Go.Proofs.Ytjjonejgbdbnjaa
open Go Go.E Go.Proofs
abbrev rC (l : List DChoice) : List (List T) := l.map DChoice.r
abbrev rJ (l : List DJob) : List (List T) := l.map DJob.r
theorem rC_len (l : List DChoice) : (rC l).length = l.length := by simp
theorem rJ_len (l : List DJob) : (rJ l).length = l.length := by simp
theorem pz : (T.i (((T.i 0).int.toNat : Nat) : Int)) = T.i 0 := rfl
def chIx (tx : Int) : List DChoice → Option Nat
  | [] => none
  | x :: l => if x.tx = tx then some 0 else (chIx tx l).map (· + 1)
theorem chIx_lt {tx : Int} : ∀ {l : List DChoice} {j : Nat}, chIx tx l = some j → j < l.length
  | [], j, h => by simp [chIx] at h
  | x :: l, j, h => by
    unfold chIx at h
    split at h
    · cases h; simp
    · cases hf : chIx tx l with
      | none => rw [hf] at h; cases h
      | some i => rw [hf] at h; cases h; have := chIx_lt hf; simp; omega
def chI (tx : Int) (l : List DChoice) : Int := match chIx tx l with | some j => (j : Int) | none => -1
theorem ixC (pre : List DChoice) (x : DChoice) (post : List DChoice) : (rC (pre ++ x :: post)).getD (Int.toNat (pre.length : Int)) [] = x.r := by simp [List.getD]
theorem c0 (x : DChoice) : x.r.getD 0 dflt = .i x.tx := rfl
theorem c1 (x : DChoice) : x.r.getD 1 dflt = .b x.yes := rfl
theorem cGet (l : List DChoice) {k : Nat} (h : k < l.length) : (((rC l).getD k []).drop 1).getD 0 dflt = .b (l.getD k default).yes := by
  simp [List.getD, h, DChoice.r]
theorem chosen_loop (m : Nat) (tx : Int) (x3 x4 x5 x6 x8 : T) : ∀ (post pre : List DChoice), pre.length + post.length ≤ 1048576 → ∀ n, post.length < n → ∀ k0 k1,
    spec_l11Chosen_L0_0 m n (.i tx) (.i 0) (.i pre.length) x3 x4 x5 x6 (.l (rC (pre ++ post))) x8 k0 k1 = (match chIx tx post with | some j => k0 (.i ((pre.length + j : Nat) : Int)) | none => k1)
  | [], pre, hs, n, hn, k0, k1 => by
    obtain ⟨n, rfl⟩ : ∃ m', n = m' + 1 := ⟨n - 1, by omega⟩
    simp only [spec_l11Chosen_L0_0, T.int_i, T.rows_l]
    rw [dec_f (by simp)]
    rfl
  | x :: post, pre, hs, n, hn, k0, k1 => by
    obtain ⟨n, rfl⟩ : ∃ m', n = m' + 1 := ⟨n - 1, by omega⟩
    simp only [List.length_cons] at hs hn
    have ih := chosen_loop m tx x3 x4 x5 x6 x8 post (pre ++ [x]) (by simp; omega) n (by omega) k0 k1
    rw [len_snoc, List.append_assoc, List.singleton_append] at ih
    simp only [spec_l11Chosen_L0_0, T.int_i, T.rows_l, ixC, ix_nx pre (by omega), c0]
    rw [dec_t (by simp; omega), dec_t (by simp; omega)]
    unfold chIx
    by_cases h : x.tx = tx
    · rw [cond_t (by simp [h]), if_pos h]; rfl
    · rw [cond_f (by simp [h]), if_neg h]
      refine Eq.trans ih ?_
      cases chIx tx post with
      | none => rfl
      | some j => simp only [Option.map_some]; congr 3; simp; omega
theorem specChosen {m : Nat} (hm : 1048590 ≤ m) (x0 x1 x2 x5 : T) (jobs : List (List T)) (log : List DChoice) (tx : Int) (hl : log.length ≤ 1048576) (K : T → An) :
    spec_l11Chosen m x0 x1 x2 (.l jobs) (.l (rC log)) x5 (.i tx) K = K (.i (chI tx log)) := by
  obtain ⟨m, rfl⟩ : ∃ m', m = m' + 1 := ⟨m - 1, by omega⟩
  simp only [spec_l11Chosen, T.rows_l]
  refine (chosen_loop m tx x0 x1 x2 _ _ log [] (by simp; omega) m (by omega) _ _).trans ?_
  unfold chI
  cases chIx tx log <;> simp
/-! who said yes -/
def yesGo (sh : List Int) : Option Int → List Int → Bool
  | _, [] => true
  | p, y :: ys => decide (y ∈ sh) && (match p with | none => true | some q => decide (q < y)) && yesGo sh (some y) ys
theorem ixI (pre : List Int) (x : Int) (post : List Int) : ((ir (pre ++ x :: post)).getD (Int.toNat (pre.length : Int)) []).getD 0 dflt = .i x := by
  simp [ir, List.getD, iRow]
theorem ixI1 (pre : List Int) (q x : Int) (post : List Int) : ((ir (pre ++ q :: x :: post)).getD (Int.toNat (pre.length : Int)) []).getD 0 dflt = .i q := by
  simp [ir, List.getD, iRow]
end Go.Proofs.Ytjjonejgbdbnjaa

namespace Go.Proofs.Ytjjonejgbdbnjaa
open Go Go.E Go.Proofs
abbrev BA := ByteArray
theorem bv255 (x : BitVec IntKind.i64.bits) : ∃ r : Int, bvBack .i64 (x &&& BitVec.ofInt IntKind.i64.bits 255) = .i r ∧ 0 ≤ r ∧ r ≤ 255 := by
  have h : (x &&& BitVec.ofInt IntKind.i64.bits 255).toNat ≤ 255 := by
    rw [BitVec.toNat_and]
    exact Nat.le_trans Nat.and_le_right (Nat.le_of_eq rfl)
  refine ⟨((x &&& BitVec.ofInt IntKind.i64.bits 255).toNat : Int), ?_, by omega, by omega⟩
  unfold bvBack
  rw [wrap_i64 (by omega) (by omega)]
/-- where a cursor stands: within its bytes -/
def At (b : List (List T)) (i : Int) : Prop := 0 ≤ i ∧ i ≤ b.length ∧ b.length ≤ 1048576
theorem l1Byte_ok {m : Nat} (hm : 1 ≤ m) {b : List (List T)} {i : Int} (h : At b i) (x : T) :
    ∃ (r i' : Int) (x' : T), 0 ≤ r ∧ r ≤ 255 ∧ At b i' ∧ ∀ k, spec_l1Byte m (.l b) (.i i) x k = k (.i r) (.l b) (.i i') x' := by
  obtain ⟨m, rfl⟩ : ∃ m', m = m' + 1 := ⟨m - 1, by omega⟩
  obtain ⟨h1, h2, h3⟩ := h
  by_cases hi : i < b.length
  · obtain ⟨r, hr, r1, r2⟩ := bv255 (BitVec.ofInt IntKind.i64.bits (IntKind.i64.wrap ((bvBack .i64 (BitVec.ofInt IntKind.i64.bits (bvBack .i64 (BitVec.ofInt IntKind.i64.bits (Int.fdiv (IntKind.i64.wrap ((IntKind.i64.wrap (x.int * 6364136223846793005)) + 1442695040888963407)) (2 ^ (min (Int.toNat 33) IntKind.i64.bits))) ^^^ BitVec.ofInt IntKind.i64.bits (Int.fdiv (IntKind.i64.wrap ((IntKind.i64.wrap (x.int * 6364136223846793005)) + 1442695040888963407)) (2 ^ (min (Int.toNat 47) IntKind.i64.bits))))).int &&& BitVec.ofInt IntKind.i64.bits 255)).int + (IntKind.i64.wrap ((b.getD (Int.toNat i) []).getD 0 dflt).int))))
    refine ⟨r, i + 1, T.i (IntKind.i64.wrap ((IntKind.i64.wrap (x.int * 6364136223846793005)) + 1442695040888963407)), r1, r2, ⟨by omega, by omega, h3⟩, fun k => ?_⟩
    simp only [spec_l1Byte, T.int_i, T.rows_l]
    rw [dec_t hi, dec_t ⟨h1, hi⟩, hr, wrap_i64 (x := i + 1) (by omega) (by omega)]
  · obtain ⟨r, hr, r1, r2⟩ := bv255 (BitVec.ofInt IntKind.i64.bits (bvBack .i64 (BitVec.ofInt IntKind.i64.bits (Int.fdiv (IntKind.i64.wrap ((IntKind.i64.wrap (x.int * 6364136223846793005)) + 1442695040888963407)) (2 ^ (min (Int.toNat 33) IntKind.i64.bits))) ^^^ BitVec.ofInt IntKind.i64.bits (Int.fdiv (IntKind.i64.wrap ((IntKind.i64.wrap (x.int * 6364136223846793005)) + 1442695040888963407)) (2 ^ (min (Int.toNat 47) IntKind.i64.bits))))).int)
    refine ⟨r, i, T.i (IntKind.i64.wrap ((IntKind.i64.wrap (x.int * 6364136223846793005)) + 1442695040888963407)), r1, r2, ⟨h1, h2, h3⟩, fun k => ?_⟩
    simp only [spec_l1Byte, T.int_i, T.rows_l]
    rw [dec_f hi, hr]
theorem l1Below_ok {m : Nat} (hm : 2 ≤ m) {b : List (List T)} {i : Int} (h : At b i) (x : T) {n : Int} (h1 : 1 ≤ n) (h2 : n ≤ 256) :
    ∃ (r i' : Int) (x' : T), 0 ≤ r ∧ r < n ∧ At b i' ∧ ∀ k, spec_l1Below m (.l b) (.i i) x (.i n) k = k (.i r) (.l b) (.i i') x' := by
  obtain ⟨m, rfl⟩ : ∃ m', m = m' + 1 := ⟨m - 1, by omega⟩
  obtain ⟨r, i', x', r1, r2, hi, hk⟩ := l1Byte_ok (m := m) (by omega) h x
  refine ⟨Int.tmod r n, i', x', Int.tmod_nonneg _ r1, Int.tmod_lt_of_pos _ (by omega), hi, fun k => ?_⟩
  simp only [spec_l1Below, T.int_i, T.rows_l]
  rw [dec_f (by omega), dec_t h2, hk]
  simp only [T.int_i, T.rows_l]
  rw [show (!decide (n = 0)) = true from by simp; omega, cond_true]
theorem l1Str_ok {m : Nat} (hm : 3 ≤ m) {b : List (List T)} {i : Int} (h : At b i) (x : T) (l : List BA) (h1 : 1 ≤ l.length) (h2 : l.length ≤ 256) :
    ∃ (a : BA) (i' : Int) (x' : T), a ∈ l ∧ At b i' ∧ ∀ k, spec_l1Str m (.l b) (.i i) x (.l (l.map fun a => [T.s a])) k = k (.s a) (.l b) (.i i') x' := by
  obtain ⟨m, rfl⟩ : ∃ m', m = m' + 1 := ⟨m - 1, by omega⟩
  obtain ⟨r, i', x', r1, r2, hi, hk⟩ := l1Below_ok (m := m) (by omega) h x (n := l.length) (by omega) (by omega)
  have hlt : r.toNat < l.length := by omega
  refine ⟨l[r.toNat], i', x', List.getElem_mem hlt, hi, fun k => ?_⟩
  simp only [spec_l1Str, T.int_i, T.rows_l, List.length_map]
  rw [hk]
  simp only [T.int_i, T.rows_l]
  rw [dec_t ⟨r1, r2⟩]
  have e : (l.map fun a => [T.s a]).getD r.toNat [] = [T.s l[r.toNat]] := by
    rw [List.getD_eq_getElem?_getD, List.getElem?_map, List.getElem?_eq_getElem hlt]; rfl
  rw [e]; rfl
theorem l1New_loop (m : Nat) (b : List (List T)) (hb : b.length ≤ 1048576) : ∀ (j : Nat) (i : Int) (x : T) (n : Nat), 0 ≤ i → (b.length : Int) - i ≤ j → j < n → ∃ x', ∀ k, spec_l1New_L0_0 m n (.l b) x (.i i) k = k (.l b) x'
  | j, i, x, 0, h0, hj, hn => by omega
  | j, i, x, n + 1, h0, hj, hn => by
    by_cases h1 : i < b.length
    · by_cases h2 : i < 4000
      · match j, hj, hn with
        | 0, hj, hn => omega
        | j + 1, hj, hn =>
        obtain ⟨x', hx⟩ := l1New_loop m b hb j (i + 1) (bvBack .i64 (BitVec.ofInt IntKind.i64.bits (IntKind.i64.wrap ((IntKind.i64.wrap ((IntKind.i64.wrap (x.int * 137)) + (IntKind.i64.wrap ((b.getD (Int.toNat i) []).getD 0 dflt).int))) + 11)) &&& BitVec.ofInt IntKind.i64.bits 1073741823)) n (by omega) (by omega) (by omega)
        refine ⟨x', fun k => ?_⟩
        simp only [spec_l1New_L0_0, jn, T.int_i, T.rows_l]
        rw [cond_t (by simp [h1]), dec_t h2, dec_t ⟨h0, h1⟩, wrap_i64 (x := i + 1) (by omega) (by omega)]
        exact hx k
      · refine ⟨x, fun k => ?_⟩
        simp only [spec_l1New_L0_0, jn, T.int_i, T.rows_l]
        rw [cond_t (by simp [h1]), dec_f h2]
    · refine ⟨x, fun k => ?_⟩
      simp only [spec_l1New_L0_0, jn, T.int_i, T.rows_l]
      rw [cond_f (by simp; omega)]
theorem l1New_ok {m : Nat} {b : List (List T)} (hb : b.length ≤ 1048576) (hm : b.length + 2 ≤ m) : ∃ x, ∀ k, spec_l1New m (.l b) k = k (.l b) (.i 0) x := by
  obtain ⟨m, rfl⟩ : ∃ m', m = m' + 1 := ⟨m - 1, by omega⟩
  obtain ⟨x, hx⟩ := l1New_loop m b hb b.length 0 (T.i (IntKind.i64.wrap (381381 + (b.length : Int)))) m (by omega) (by omega) (by omega)
  refine ⟨x, fun k => ?_⟩
  simp only [spec_l1New, T.rows_l]
  exact hx _
theorem l1Int_ok {m : Nat} (hm : 3 ≤ m) {b : List (List T)} {i : Int} (h : At b i) (x : T) (l : List Int) (h1 : 1 ≤ l.length) (h2 : l.length ≤ 256) :
    ∃ (a : Int) (i' : Int) (x' : T), a ∈ l ∧ At b i' ∧ ∀ k, spec_l1Int m (.l b) (.i i) x (.l (l.map fun a => [T.i a])) k = k (.i a) (.l b) (.i i') x' := by
  obtain ⟨m, rfl⟩ : ∃ m', m = m' + 1 := ⟨m - 1, by omega⟩
  obtain ⟨r, i', x', r1, r2, hi, hk⟩ := l1Below_ok (m := m) (by omega) h x (n := l.length) (by omega) (by omega)
  have hlt : r.toNat < l.length := by omega
  refine ⟨l[r.toNat], i', x', List.getElem_mem hlt, hi, fun k => ?_⟩
  simp only [spec_l1Int, T.int_i, T.rows_l, List.length_map]
  rw [hk]
  simp only [T.int_i, T.rows_l]
  rw [dec_t ⟨r1, r2⟩]
  have e : (l.map fun a => [T.i a]).getD r.toNat [] = [T.i l[r.toNat]] := by
    rw [List.getD_eq_getElem?_getD, List.getElem?_map, List.getElem?_eq_getElem hlt]; rfl
  rw [e]; rfl
theorem l1Once_ok {m : Nat} (hm : 3 ≤ m) {b : List (List T)} {i : Int} (h : At b i) (x : T) {n : Int} (h1 : 1 ≤ n) (h2 : n ≤ 256) :
    ∃ (r : Bool) (i' : Int) (x' : T), At b i' ∧ ∀ k, spec_l1Once m (.l b) (.i i) x (.i n) k = k (.b r) (.l b) (.i i') x' := by
  obtain ⟨m, rfl⟩ : ∃ m', m = m' + 1 := ⟨m - 1, by omega⟩
  obtain ⟨r, i', x', r1, r2, hi, hk⟩ := l1Below_ok (m := m) (by omega) h x h1 h2
  refine ⟨r == 0, i', x', hi, fun k => ?_⟩
  simp only [spec_l1Once, T.rows_l]
  rw [hk]
  rfl

theorem l1Size_ok {m : Nat} (hm : 1 ≤ m) (b : List (List T)) (hb : b.length ≤ 1048576) : ∃ r : Int, 3 ≤ r ∧ r ≤ 16 ∧ ∀ k, spec_l1Size m (.l b) (.i 16) k = k (.i r) := by
  obtain ⟨m, rfl⟩ : ∃ m', m = m' + 1 := ⟨m - 1, by omega⟩
  have h0 : 0 ≤ Int.tdiv (b.length : Int) 12 := Int.tdiv_nonneg (by omega) (by omega)
  have h1 : Int.tdiv (b.length : Int) 12 ≤ b.length := Int.tdiv_le_self _ (by omega)
  have e1 : IntKind.i64.wrap (Int.tdiv (b.length : Int) 12) = Int.tdiv (b.length : Int) 12 := wrap_i64 (by omega) (by omega)
  have e2 : IntKind.i64.wrap (3 + Int.tdiv (b.length : Int) 12) = 3 + Int.tdiv (b.length : Int) 12 := wrap_i64 (by omega) (by omega)
  by_cases h : 3 + Int.tdiv (b.length : Int) 12 > 16
  · refine ⟨16, by omega, by omega, fun k => ?_⟩
    simp only [spec_l1Size, T.int_i, T.rows_l, e1, e2]
    rw [dec_t h]
  · refine ⟨3 + Int.tdiv (b.length : Int) 12, by omega, by omega, fun k => ?_⟩
    simp only [spec_l1Size, T.int_i, T.rows_l, e1, e2]
    rw [dec_f h]
def SOp (o : DOp) : Prop := o.key.size ≤ 5 ∧ o.val.size ≤ 64
theorem l3Key_ok {m : Nat} (hm : 10 ≤ m) {b : List (List T)} {i : Int} (h : At b i) (x : T) :
    ∃ (a : ByteArray) (i' : Int) (x' : T), a.size ≤ 5 ∧ At b i' ∧ ∀ k, spec_l3Key m (.l b) (.i i) x k = k (.s a) (.l b) (.i i') x' := by
  obtain ⟨m, rfl⟩ : ∃ m', m = m' + 1 := ⟨m - 1, by omega⟩
  obtain ⟨a, i', x', ha, hi, hk⟩ := l1Str_ok (m := m) (by omega) h x [⟨#[97]⟩, ⟨#[98]⟩, ⟨#[99]⟩, ⟨#[107, 49]⟩, ⟨#[107, 50]⟩, ⟨#[109]⟩, ⟨#[122]⟩] (by decide) (by decide)
  have hs : ∀ a ∈ ([⟨#[97]⟩, ⟨#[98]⟩, ⟨#[99]⟩, ⟨#[107, 49]⟩, ⟨#[107, 50]⟩, ⟨#[109]⟩, ⟨#[122]⟩] : List ByteArray), a.size ≤ 5 := by decide
  refine ⟨a, i', x', hs a ha, hi, fun k => ?_⟩
  simp only [spec_l3Key, T.rows_l]
  exact (hk _).trans rfl
theorem l7Op1_ok {m : Nat} (hm : 20 ≤ m) {b : List (List T)} {i : Int} (h : At b i) (x : T) :
    ∃ (o : DOp) (i' : Int) (x' : T), SOp o ∧ At b i' ∧ ∀ k, spec_l7Op1 m (.l b) (.i i) x k = k (.i o.kind) (.s o.key) (.s o.val) (.l b) (.i i') x' := by
  obtain ⟨m, rfl⟩ : ∃ m', m = m' + 1 := ⟨m - 1, by omega⟩
  obtain ⟨c, i1, x1, hc, h1, hk⟩ := l1Int_ok (m := m) (by omega) h x [1, 1, 1, 2, 3] (by decide) (by decide)
  obtain ⟨a, i2, x2, ha, h2, hk2⟩ := l3Key_ok (m := m) (by omega) h1 x1
  simp only [List.map_cons, List.map_nil] at hk
  by_cases hc2 : c = 2
  · refine ⟨⟨c, a, ⟨#[]⟩⟩, i2, x2, ⟨ha, by show (⟨#[]⟩ : ByteArray).size ≤ 64; decide⟩, h2, fun k => ?_⟩
    simp only [spec_l7Op1, T.rows_l]
    rw [hk]
    simp only [T.int_i, T.rows_l]
    rw [hk2, cond_f (by simp [hc2])]
    rfl
  · obtain ⟨v, i3, x3, hv, h3, hk3⟩ := l1Str_ok (m := m) (by omega) h2 x2 [⟨#[49]⟩, ⟨#[50]⟩, ⟨#[120]⟩, ⟨#[]⟩, ⟨#[49]⟩] (by decide) (by decide)
    have hs : ∀ a ∈ ([⟨#[49]⟩, ⟨#[50]⟩, ⟨#[120]⟩, ⟨#[]⟩, ⟨#[49]⟩] : List ByteArray), a.size ≤ 64 := by decide
    refine ⟨⟨c, a, v⟩, i3, x3, ⟨ha, hs v hv⟩, h3, fun k => ?_⟩
    simp only [spec_l7Op1, T.rows_l]
    rw [hk]
    simp only [T.int_i, T.rows_l]
    rw [hk2, cond_t (by simp [hc2])]
    simp only [T.rows_l]
    exact (hk3 _).trans rfl
end Go.Proofs.Ytjjonejgbdbnjaa

namespace Go.Proofs.Ytjjonejgbdbnjaa
open Go Go.E Go.Proofs
def cB (b : Bool) : Nat := cond b 0 1
/-- a round of l7One behind its first question -/
noncomputable def oneTail (m n : Nat) (x0 x3 x4 x5 x6 y1 y2 : T) (k0 : T → T → T → T → T → T → An) : An :=
  cond (decide ((0 : Int) ≤ x3.int ∧ x3.int < (x0.rows.length : Int)))
    (cond (!((((x0.rows.getD (Int.toNat x3.int) []).drop 1).getD 0 dflt).str.toList == x5.str.toList))
    (cond (decide ((0 : Int) ≤ x3.int ∧ x3.int < (x0.rows.length : Int)))
    (cond (decide ((y2.rows.length + 1) * 3 ≤ maxRow))
    (spec_l7One_L0_0 m n x0 (T.i 0) y1 (T.i (IntKind.i64.wrap (x3.int + 1))) x4 x5 x6 (T.l (y2.rows ++ [[((x0.rows.getD (Int.toNat x3.int) []).getD 0 dflt), ((x0.rows.getD (Int.toNat x3.int) []).getD 1 dflt), ((x0.rows.getD (Int.toNat x3.int) []).getD 2 dflt)]])) k0)
    (.bad))
    (.bad))
    (spec_l7One_L0_0 m n x0 (T.i 0) y1 (T.i (IntKind.i64.wrap (x3.int + 1))) x4 x5 x6 (T.l y2.rows) k0))
    (.bad)
theorem one_step (m n : Nat) (x0 x2 x3 x4 x5 x6 x7 : T) (k0 : T → T → T → T → T → T → An) : spec_l7One_L0_0 m (n + 1) x0 (T.i 0) x2 x3 x4 x5 x6 x7 k0 =
    cond (decide (x3.int < (x0.rows.length : Int)))
    (cond ((!x2.bool) == true)
    (cond (decide ((0 : Int) ≤ x3.int ∧ x3.int < (x0.rows.length : Int)))
    (cond (!(Op.bytesLess (((x0.rows.getD (Int.toNat x3.int) []).drop 1).getD 0 dflt).str.toList x5.str.toList))
    (cond (decide ((x7.rows.length + 1) * 3 ≤ maxRow))
    (oneTail m n x0 x3 x4 x5 x6 (T.b true) (T.l (x7.rows ++ [[x4, x5, x6]])) k0)
    (.bad))
    (oneTail m n x0 x3 x4 x5 x6 x2 (T.l x7.rows) k0))
    (.bad))
    (oneTail m n x0 x3 x4 x5 x6 x2 (T.l x7.rows) k0))
    (k0 (T.i 0) x2 x4 x5 x6 (T.l x7.rows)) := rfl
theorem one_loop (m : Nat) (o : DOp) (ho : SOp o) : ∀ (post pre acc : List DOp) (put : Bool), (∀ p ∈ post, SOp p) → (∀ p ∈ acc, SOp p) → (put = true → acc ≠ []) → pre.length + post.length ≤ 1000 → acc.length + post.length + cB put ≤ 1000 → ∀ n, post.length < n →
    ∃ (put' : Bool) (l : List DOp), (∀ p ∈ l, SOp p) ∧ (put' = true → l ≠ []) ∧ l.length + cB put' ≤ acc.length + post.length + cB put ∧ ∀ k0, spec_l7One_L0_0 m n (.l (rO (pre ++ post))) (.i 0) (.b put) (.i pre.length) (.i o.kind) (.s o.key) (.s o.val) (.l (rO acc)) k0 = k0 (.i 0) (.b put') (.i o.kind) (.s o.key) (.s o.val) (.l (rO l))
  | [], pre, acc, put, hp, ha, hn0, hs, hs2, n, hn => by
    obtain ⟨n, rfl⟩ : ∃ m', n = m' + 1 := ⟨n - 1, by omega⟩
    refine ⟨put, acc, ha, hn0, by simp, fun k0 => ?_⟩
    rw [one_step]
    simp only [T.int_i, T.rows_l]
    rw [dec_f (by simp)]
  | x :: post, pre, acc, put, hp, ha, hn0, hs, hs2, n, hn => by
    obtain ⟨n, rfl⟩ : ∃ m', n = m' + 1 := ⟨n - 1, by omega⟩
    simp only [List.length_cons] at hs hn hs2
    have hx := hp x (by simp)
    have hpp : ∀ p ∈ post, SOp p := fun p h => hp p (by simp [h])
    -- behind the first question
    have tail : ∀ (put1 : Bool) (acc1 : List DOp), (∀ p ∈ acc1, SOp p) → (put1 = true → acc1 ≠ []) →
        acc1.length + cB put1 ≤ acc.length + cB put → ∃ (put' : Bool) (l : List DOp), (∀ p ∈ l, SOp p) ∧ (put' = true → l ≠ []) ∧ l.length + cB put' ≤ acc.length + (post.length + 1) + cB put ∧ ∀ k0, oneTail m n (.l (rO (pre ++ x :: post))) (.i pre.length) (.i o.kind) (.s o.key) (.s o.val) (.b put1) (.l (rO acc1)) k0 = k0 (.i 0) (.b put') (.i o.kind) (.s o.key) (.s o.val) (.l (rO l)) := fun put1 acc1 q1 q2 q4 => by
      by_cases hk : (x.key.toList == o.key.toList) = true
      · obtain ⟨put', l, g1, g2, g3, g4⟩ := one_loop m o ho post (pre ++ [x]) acc1 put1 hpp q1 q2 (by simp; omega) (by omega) n (by omega)
        refine ⟨put', l, g1, g2, by omega, fun k0 => ?_⟩
        have ih := g4 k0
        rw [len_snoc, List.append_assoc, List.singleton_append] at ih
        unfold oneTail
        simp only [T.int_i, T.rows_l, ixO, od1, T.str_s, ix_nx pre (by omega)]
        rw [dec_t (by simp; omega), hk]
        exact ih
      · obtain ⟨put', l, g1, g2, g3, g4⟩ := one_loop m o ho post (pre ++ [x]) (acc1 ++ [x]) put1 hpp (fun p h => by
          rcases List.mem_append.1 h with h | h
          · exact q1 p h
          · simp at h; rw [h]; exact hx) (fun _ => by simp) (by simp; omega) (by simp; omega) n (by omega)
        refine ⟨put', l, g1, g2, by simp at g3; omega, fun k0 => ?_⟩
        have ih := g4 k0
        rw [len_snoc, List.append_assoc, List.singleton_append] at ih
        unfold oneTail
        simp only [T.int_i, T.rows_l, ixO, od1, T.str_s, ix_nx pre (by omega), o0, o1, o2, o_eta]
        rw [dec_t (by simp; omega), cond_t (by simpa using hk), dec_t (by simp; omega), dec_t (by rw [rO_len]; unfold maxRow; omega)]
        have e : rO acc1 ++ [x.r] = rO (acc1 ++ [x]) := by simp
        rw [e]
        exact ih
    have hB0 : decide ((pre.length : Int) < ((rO (pre ++ x :: post)).length : Int)) = true := decide_eq_true (by simp; omega)
    cases put with
    | true =>
      obtain ⟨put', l, g1, g2, g3, g4⟩ := tail true acc ha hn0 (by omega)
      refine ⟨put', l, g1, g2, by simp only [List.length_cons]; omega, fun k0 => ?_⟩
      rw [one_step]
      simp only [T.int_i, T.rows_l, hB0, cond_true, T.bool_b]
      exact g4 k0
    | false =>
      cases hl : Op.bytesLess x.key.toList o.key.toList with
      | true =>
        obtain ⟨put', l, g1, g2, g3, g4⟩ := tail false acc ha hn0 (by omega)
        refine ⟨put', l, g1, g2, by simp only [List.length_cons]; omega, fun k0 => ?_⟩
        rw [one_step]
        simp only [T.int_i, T.rows_l, hB0, cond_true, T.bool_b, ixO, od1, T.str_s, hl]
        rw [cond_t (by rfl), dec_t (by simp; omega)]
        exact g4 k0
      | false =>
        obtain ⟨put', l, g1, g2, g3, g4⟩ := tail true (acc ++ [o]) (fun p h => by
          rcases List.mem_append.1 h with h | h
          · exact ha p h
          · simp at h; rw [h]; exact ho) (fun _ => by simp) (by simp [cB])
        refine ⟨put', l, g1, g2, by simp only [List.length_cons]; omega, fun k0 => ?_⟩
        rw [one_step]
        simp only [T.int_i, T.rows_l, hB0, cond_true, T.bool_b, ixO, od1, T.str_s, hl, o_eta]
        rw [cond_t (by rfl), dec_t (by simp; omega), cond_t (by rfl), dec_t (by rw [rO_len]; unfold maxRow; omega)]
        have e : rO acc ++ [o.r] = rO (acc ++ [o]) := by simp
        rw [e]
        exact g4 k0
theorem l7One_ok {m : Nat} (hm : 1002 ≤ m) (l : List DOp) (o : DOp) (hl : ∀ p ∈ l, SOp p) (ho : SOp o) (h2 : l.length ≤ 900) :
    ∃ l' : List DOp, (∀ p ∈ l', SOp p) ∧ l' ≠ [] ∧ l'.length ≤ l.length + 1 ∧ ∀ k, spec_l7One m (.l (rO l)) (.i o.kind) (.s o.key) (.s o.val) k = k (.l (rO l')) := by
  obtain ⟨m, rfl⟩ : ∃ m', m = m' + 1 := ⟨m - 1, by omega⟩
  obtain ⟨put', l', g1, g2, g3, g4⟩ := one_loop m o ho l [] [] false hl (by simp) (by simp) (by simp; omega) (by simp [cB]; omega) m (by omega)
  simp only [List.nil_append, List.length_nil, cB, cond_false] at g3 g4
  cases put' with
  | true =>
    refine ⟨l', g1, g2 rfl, by simp at g3; omega, fun k => ?_⟩
    simp only [spec_l7One, T.rows_l]
    exact (g4 _).trans rfl
  | false =>
    simp only [cond_false] at g3
    refine ⟨l' ++ [o], fun p h => by
      rcases List.mem_append.1 h with h | h
      · exact g1 p h
      · simp at h; rw [h]; exact ho, by simp, by simp; omega, fun k => ?_⟩
    simp only [spec_l7One, T.rows_l]
    refine (g4 _).trans ?_
    simp only [T.bool_b, Bool.not_false, cond_true, T.rows_l, o_eta]
    rw [dec_t (by rw [rO_len]; unfold maxRow; omega)]
    have e : rO l' ++ [o.r] = rO (l' ++ [o]) := by simp
    rw [e]
theorem draw_loop (m : Nat) (hm : 1100 ≤ m) {b : List (List T)} : ∀ (j : Nat) (acc : List DOp) (i : Int) (x : T), At b i → (∀ p ∈ acc, SOp p) → (acc ≠ [] ∨ 0 < j) → acc.length + j ≤ 100 → ∀ n, j < n →
    ∃ (l : List DOp) (i' : Int) (x' : T), (∀ p ∈ l, SOp p) ∧ l ≠ [] ∧ l.length ≤ acc.length + j ∧ At b i' ∧ ∀ k0, spec_l7Draw_L0_0 m n (.i 0) (.i (j : Int)) (.l b) (.i i) x (.l (rO acc)) k0 = k0 (.i 0) (.l b) (.i i') x' (.l (rO l))
  | 0, acc, i, x, h, hacc, hne, hl, n, hn => by
    obtain ⟨n, rfl⟩ : ∃ m', n = m' + 1 := ⟨n - 1, by omega⟩
    refine ⟨acc, i, x, hacc, hne.resolve_right (by omega), by omega, h, fun k0 => ?_⟩
    simp only [spec_l7Draw_L0_0, T.rows_l, T.int_i]
    rw [dec_f (by omega)]
    rfl
  | j + 1, acc, i, x, h, hacc, hne, hl, n, hn => by
    obtain ⟨n, rfl⟩ : ∃ m', n = m' + 1 := ⟨n - 1, by omega⟩
    obtain ⟨o, i1, x1, ho, h1, hk⟩ := l7Op1_ok (m := m) (by omega) h x
    obtain ⟨a2, q1, q2, q3, q4⟩ := l7One_ok (m := m) (by omega) acc o hacc ho (by omega)
    obtain ⟨l, i', x', g1, g2, g3, g4, g5⟩ := draw_loop m hm j a2 i1 x1 h1 q1 (.inl q2) (by omega) n (by omega)
    refine ⟨l, i', x', g1, g2, by omega, g4, fun k0 => ?_⟩
    have f4 : IntKind.i64.wrap (((j + 1 : Nat) : Int) - 1) = (j : Int) := by rw [wrap_i64 (by omega) (by omega)]; omega
    simp only [spec_l7Draw_L0_0, T.rows_l, T.int_i, f4]
    rw [dec_t (by omega), hk, q4]
    exact g5 k0
theorem l7Draw_ok {m : Nat} (hm : 1200 ≤ m) {b : List (List T)} {i : Int} (h : At b i) (x : T) :
    ∃ (l : List DOp) (i' : Int) (x' : T), (∀ p ∈ l, SOp p) ∧ l ≠ [] ∧ l.length ≤ 4 ∧ At b i' ∧ ∀ k, spec_l7Draw m (.l b) (.i i) x k = k (.l (rO l)) (.l b) (.i i') x' := by
  obtain ⟨m, rfl⟩ : ∃ m', m = m' + 1 := ⟨m - 1, by omega⟩
  obtain ⟨r, i1, x1, r1, r2, h1, hk⟩ := l1Below_ok (m := m) (by omega) h x (n := 4) (by omega) (by omega)
  obtain ⟨l, i', x', g1, g2, g3, g4, g5⟩ := draw_loop m (by omega) (1 + r).toNat [] i1 x1 h1 (by simp) (.inr (by omega)) (by simp; omega) m (by omega)
  refine ⟨l, i', x', g1, g2, by simp at g3; omega, g4, fun k => ?_⟩
  have er : IntKind.i64.wrap (1 + r) = (((1 + r).toNat : Nat) : Int) := by rw [wrap_i64 (by omega) (by omega)]; omega
  simp only [spec_l7Draw, T.rows_l]
  rw [hk]
  simp only [T.int_i, T.rows_l, er]
  exact (g5 _).trans rfl
end Go.Proofs.Ytjjonejgbdbnjaa

namespace Go.Proofs.Ytjjonejgbdbnjaa
open Go Go.E Go.Proofs
/-! pairs, typed -/
abbrev rP (l : List DPair) : List (List T) := l.map DPair.r
theorem rP_len (l : List DPair) : (rP l).length = l.length := by simp
theorem ixP (pre : List DPair) (x : DPair) (post : List DPair) : (rP (pre ++ x :: post)).getD (Int.toNat (pre.length : Int)) [] = x.r := by simp [List.getD]
theorem p0 (x : DPair) : x.r.getD 0 dflt = .s x.key := rfl
theorem p1 (x : DPair) : x.r.getD 1 dflt = .s x.val := rfl
theorem pd1 (x : DPair) : (x.r.drop 1).getD 0 dflt = .s x.val := rfl
theorem p_eta (x : DPair) : [T.s x.key, T.s x.val] = x.r := rfl
theorem od2 (x : DOp) : (x.r.drop 2).getD 0 dflt = .s x.val := rfl
def keq (a b : ByteArray) : Bool := a.toList == b.toList
def getKV (k : ByteArray) : List DPair → ByteArray × Bool
  | [] => (emp, false)
  | p :: l => if keq p.key k then (p.val, true) else getKV k l
theorem get_loop (m : Nat) (k : ByteArray) : ∀ (post pre : List DPair), pre.length + post.length ≤ 1048576 → ∀ n, post.length < n → ∀ k0 k1,
    spec_GetKey_L0_0 m n (.l (rP (pre ++ post))) (.s k) (.i pre.length) k0 k1 = cond (getKV k post).2 (k0 (.s (getKV k post).1) (.b true)) k1
  | [], pre, hs, n, hn, k0, k1 => by
    obtain ⟨n, rfl⟩ : ∃ m', n = m' + 1 := ⟨n - 1, by omega⟩
    simp only [spec_GetKey_L0_0, T.int_i, T.rows_l]
    rw [dec_f (by simp)]
    rfl
  | x :: post, pre, hs, n, hn, k0, k1 => by
    obtain ⟨n, rfl⟩ : ∃ m', n = m' + 1 := ⟨n - 1, by omega⟩
    simp only [List.length_cons] at hs hn
    have ih := get_loop m k post (pre ++ [x]) (by simp; omega) n (by omega) k0 k1
    rw [len_snoc, List.append_assoc, List.singleton_append] at ih
    simp only [spec_GetKey_L0_0, T.int_i, T.rows_l, ixP, ix_nx pre (by omega), p0, pd1, T.str_s]
    rw [dec_t (by simp <;> omega), dec_t (by simp <;> omega)]
    unfold getKV
    cases hk : keq x.key k with
    | true => rw [cond_t (show (x.key.toList == k.toList) = true from hk), dec_t (by simp <;> omega)]; rfl
    | false => rw [cond_f (show (x.key.toList == k.toList) = false from hk)]; exact ih
theorem getKV_no (k : ByteArray) : ∀ l, (getKV k l).2 = false → (getKV k l).1 = emp
  | [], _ => rfl
  | p :: l, h => by
    unfold getKV at h ⊢
    split at h
    · cases h
    · rename_i hk; rw [if_neg hk]; exact getKV_no k l h
theorem get_ok {m : Nat} (hm : 1048590 ≤ m) (l : List DPair) (k : ByteArray) (hl : l.length ≤ 1048576) (K : T → T → An) : spec_GetKey m (.l (rP l)) (.s k) K = K (.s (getKV k l).1) (.b (getKV k l).2) := by
  obtain ⟨m, rfl⟩ : ∃ m', m = m' + 1 := ⟨m - 1, by omega⟩
  simp only [spec_GetKey, T.rows_l]
  refine (get_loop m k l [] (by simpa using hl) m (by omega) _ _).trans ?_
  cases h : (getKV k l).2 with
  | true => rfl
  | false => rw [getKV_no k l h]; rfl
/-! what must be there -/
def meet1 (m : List DPair) (o : DOp) : Bool := o.kind != 3 || ((getKV o.key m).2 == !(o.val.toList == emp.toList)) && ((getKV o.key m).1.toList == o.val.toList)
def meetsP (m : List DPair) (l : List DOp) : Bool := l.all (meet1 m)
theorem meets_loop (m : Nat) (hm : 1048600 ≤ m) (mp : List DPair) (hp : mp.length ≤ 1048576) : ∀ (post pre : List DOp), pre.length + post.length ≤ 1048576 → ∀ n, post.length < n → ∀ k0 k1,
    spec_Meets_L0_0 m n (.l (rP mp)) (.l (rO (pre ++ post))) (.i pre.length) k0 k1 = cond (meetsP mp post) k1 (k0 (.b false))
  | [], pre, hs, n, hn, k0, k1 => by
    obtain ⟨n, rfl⟩ : ∃ m', n = m' + 1 := ⟨n - 1, by omega⟩
    simp only [spec_Meets_L0_0, T.int_i, T.rows_l]
    rw [dec_f (by simp)]
    rfl
  | x :: post, pre, hs, n, hn, k0, k1 => by
    obtain ⟨n, rfl⟩ : ∃ m', n = m' + 1 := ⟨n - 1, by omega⟩
    simp only [List.length_cons] at hs hn
    have ih := meets_loop m hm mp hp post (pre ++ [x]) (by simp; omega) n (by omega) k0 k1
    rw [len_snoc, List.append_assoc, List.singleton_append] at ih
    have hB : decide ((0 : Int) ≤ (pre.length : Int) ∧ (pre.length : Int) < ((rO (pre ++ x :: post)).length : Int)) = true := decide_eq_true (by simp; omega)
    simp only [spec_Meets_L0_0, T.int_i, T.rows_l, ixO, ix_nx pre (by omega), o0, od1, od2, T.str_s, hB, cond_true]
    rw [dec_t (by simp <;> omega), get_ok (by omega) mp x.key hp]
    simp only [T.bool_b, T.str_s, show (⟨#[]⟩ : ByteArray) = emp from rfl]
    show _ = cond (meet1 mp x && meetsP mp post) k1 (k0 (.b false))
    unfold meet1
    cases hk : x.kind != 3 with
    | true => simp only [cond_true, Bool.true_or, Bool.true_and]; exact ih
    | false =>
      simp only [cond_false, Bool.false_or]
      cases h1 : (getKV x.key mp).2 == !(x.val.toList == emp.toList) with
      | false => simp
      | true =>
        simp only [Bool.not_true, beq_self_eq_true, cond_true, Bool.true_and]
        cases h2 : (getKV x.key mp).1.toList == x.val.toList with
        | false => simp
        | true => simp only [Bool.not_true, cond_false, Bool.true_and]; exact ih
theorem meets_ok {m : Nat} (hm : 1048610 ≤ m) (mp : List DPair) (l : List DOp) (hp : mp.length ≤ 1048576) (hl : l.length ≤ 1048576) (K : T → An) : spec_Meets m (.l (rP mp)) (.l (rO l)) K = K (.b (meetsP mp l)) := by
  obtain ⟨m, rfl⟩ : ∃ m', m = m' + 1 := ⟨m - 1, by omega⟩
  simp only [spec_Meets, T.rows_l]
  refine (meets_loop m (by omega) mp hp l [] (by simpa using hl) m (by omega) _ _).trans ?_
  cases meetsP mp l <;> rfl
/-! a key is put in -/
def setK (k v : ByteArray) : List DPair → Option (List DPair)
  | [] => none
  | p :: l => if keq p.key k then some (⟨p.key, v⟩ :: l) else (setK k v l).map (p :: ·)
def kle (a b : ByteArray) : Bool := Op.bytesLess a.toList b.toList || (a.toList == b.toList)
def cntK (k : ByteArray) : List DPair → Nat
  | [] => 0
  | p :: l => if kle p.key k then cntK k l + 1 else 0
theorem cntK_le (k : ByteArray) : ∀ l, cntK k l ≤ l.length
  | [] => by simp [cntK]
  | r :: l => by
    have := cntK_le k l
    unfold cntK
    split <;> simp <;> omega
def putK (l : List DPair) (k v : ByteArray) : List DPair := match setK k v l with
  | some l' => l'
  | none => l.take (cntK k l) ++ [⟨k, v⟩] ++ l.drop (cntK k l)
theorem setK_len (k v : ByteArray) : ∀ {l l' : List DPair}, setK k v l = some l' → l'.length = l.length
  | [], l', h => by cases h
  | p :: l, l', h => by
    unfold setK at h
    split at h
    · cases h; rfl
    · cases h2 : setK k v l with
      | none => rw [h2] at h; cases h
      | some l2 => rw [h2] at h; cases h; simp [setK_len k v h2]
theorem putK_len (l : List DPair) (k v : ByteArray) : (putK l k v).length ≤ l.length + 1 := by
  unfold putK
  split
  · rename_i h; have := setK_len k v h; omega
  · have := cntK_le k l
    simp; omega
theorem putK_loop0 (m : Nat) (l x1 : T) (k v : ByteArray) : ∀ (post pre : List DPair), pre.length + post.length ≤ 4611686018427387 → ∀ n, post.length < n → ∀ k0 k1,
    spec_PutKey_L0_0 m n l (.s k) (.s v) (.i pre.length) (.l (rP (pre ++ post))) k0 k1 =
      match setK k v post with
      | some post' => k0 (.l (rP (pre ++ post')))
      | none => k1 l (.s k) (.s v)
  | [], pre, hs, n, hn, k0, k1 => by
    obtain ⟨n, rfl⟩ : ∃ m', n = m' + 1 := ⟨n - 1, by omega⟩
    simp only [spec_PutKey_L0_0, T.int_i, T.rows_l, setK]
    rw [dec_f (by simp)]
  | x :: post, pre, hs, n, hn, k0, k1 => by
    obtain ⟨n, rfl⟩ : ∃ m', n = m' + 1 := ⟨n - 1, by omega⟩
    simp only [List.length_cons] at hs hn
    have ih := putK_loop0 m l x1 k v post (pre ++ [x]) (by simp; omega) n (by omega) k0 k1
    rw [len_snoc, List.append_assoc, List.singleton_append] at ih
    simp only [spec_PutKey_L0_0, T.int_i, T.rows_l, ixP, ix_nx pre (by omega), p0, T.str_s]
    rw [dec_t (by simp <;> omega), dec_t (by simp <;> omega), dec_t (by simp)]
    unfold setK
    cases hk : keq x.key k with
    | true =>
      rw [cond_t (show (x.key.toList == k.toList) = true from hk), dec_t (by simp <;> omega), dec_t (by simp)]
      have e : (rP (pre ++ x :: post)).set (Int.toNat (pre.length : Int)) (x.r.set 1 (.s v)) = rP (pre ++ ⟨x.key, v⟩ :: post) := by
        simp only [rP, List.map_append, List.map_cons]
        have := set_row (pre.map DPair.r) x.r (x.r.set 1 (.s v)) (post.map DPair.r)
        rw [List.length_map] at this
        exact this
      rw [e]; rfl
    | false =>
      rw [cond_f (show (x.key.toList == k.toList) = false from hk)]
      refine ih.trans ?_
      simp only [Bool.false_eq_true, if_false]
      cases setK k v post with
      | none => rfl
      | some j => simp
theorem putK_loop1 (m : Nat) (k : ByteArray) (x2 : T) : ∀ (post pre : List DPair), pre.length + post.length ≤ 4611686018427387 → ∀ n, post.length < n → ∀ k0,
    spec_PutKey_L1_0 m n (.l (rP (pre ++ post))) (.s k) x2 (.i pre.length) k0 = k0 (.l (rP (pre ++ post))) (.s k) x2 (.i ((pre.length + cntK k post : Nat) : Int))
  | [], pre, hs, n, hn, k0 => by
    obtain ⟨n, rfl⟩ : ∃ m', n = m' + 1 := ⟨n - 1, by omega⟩
    simp only [spec_PutKey_L1_0, T.int_i, T.rows_l, cntK]
    rw [cond_f (by simp)]
    rfl
  | x :: post, pre, hs, n, hn, k0 => by
    obtain ⟨n, rfl⟩ : ∃ m', n = m' + 1 := ⟨n - 1, by omega⟩
    simp only [List.length_cons] at hs hn
    have ih := putK_loop1 m k x2 post (pre ++ [x]) (by simp; omega) n (by omega) k0
    rw [len_snoc, List.append_assoc, List.singleton_append] at ih
    simp only [spec_PutKey_L1_0, T.int_i, T.rows_l, ixP, ix_nx pre (by omega), cntK, p0, T.str_s]
    rw [cond_t (by simp <;> omega), dec_t (by simp <;> omega)]
    cases hk : kle x.key k with
    | true =>
      rw [cond_t (show (Op.bytesLess x.key.toList k.toList || (x.key.toList == k.toList)) = true from hk)]
      refine ih.trans ?_
      have e : (pre ++ [x]).length + cntK k post = pre.length + (cntK k post + 1) := by simp; omega
      rw [if_pos rfl, e]
    | false =>
      rw [cond_f (show (Op.bytesLess x.key.toList k.toList || (x.key.toList == k.toList)) = false from hk)]
      rfl
theorem putK_ok {m : Nat} (l : List DPair) (k v : ByteArray) (hl : l.length ≤ 1048576) (hm : 1048580 ≤ m) (K : T → An) : spec_PutKey m (.l (rP l)) (.s k) (.s v) K = K (.l (rP (putK l k v))) := by
  obtain ⟨m, rfl⟩ : ∃ m', m = m' + 1 := ⟨m - 1, by omega⟩
  simp only [spec_PutKey, T.rows_l]
  rw [dec_t (by rw [rP_len]; unfold maxRow; omega)]
  refine (putK_loop0 m (.l (rP l)) (.s k) k v l [] (by simp; omega) m (by omega) _ _).trans ?_
  unfold putK
  cases setK k v l with
  | some j => rfl
  | none =>
    simp only []
    refine (putK_loop1 m k (.s v) l [] (by simp; omega) m (by omega) _).trans ?_
    have hc := cntK_le k l
    have e1 : Int.toNat ((0 + cntK k l : Nat) : Int) = cntK k l := by simp
    have e2 : Int.toNat ((rP l).length : Int) = (rP l).length := rfl
    simp only [T.rows_l, T.int_i, List.nil_append, List.length_nil, e1, e2, List.take_length]
    rw [dec_t (by simp; omega), dec_t (by omega), dec_t (by simp [maxRow]; omega), dec_t (by simp [maxRow]; omega), dec_t (by omega), dec_t (by simp; omega), dec_t (by simp [maxRow]; omega)]
    simp [rP, List.map_take, List.map_drop, DPair.r]
/-! a key is taken away -/
def delK (l : List DPair) (k : ByteArray) : List DPair := l.filter fun p => !keq p.key k
theorem del_loop (m : Nat) (k : ByteArray) : ∀ (post pre acc : List DPair), pre.length + post.length ≤ 1048576 → acc.length + post.length ≤ 1048576 → ∀ n, post.length < n → ∀ k0,
    spec_DelKey_L0_0 m n (.l (rP (pre ++ post))) (.s k) (.i pre.length) (.l (rP acc)) k0 = k0 (.l (rP (acc ++ delK post k)))
  | [], pre, acc, hs, ha, n, hn, k0 => by
    obtain ⟨n, rfl⟩ : ∃ m', n = m' + 1 := ⟨n - 1, by omega⟩
    simp only [spec_DelKey_L0_0, T.int_i, T.rows_l]
    rw [dec_f (by simp)]
    simp [delK]
  | x :: post, pre, acc, hs, ha, n, hn, k0 => by
    obtain ⟨n, rfl⟩ : ∃ m', n = m' + 1 := ⟨n - 1, by omega⟩
    simp only [List.length_cons] at hs hn ha
    have ih := fun acc ha => del_loop m k post (pre ++ [x]) acc (by simp; omega) ha n (by omega) k0
    rw [len_snoc, List.append_assoc, List.singleton_append] at ih
    simp only [spec_DelKey_L0_0, T.int_i, T.rows_l, ixP, ix_nx pre (by omega), p0, p1, T.str_s, p_eta]
    rw [dec_t (by simp <;> omega), dec_t (by simp <;> omega)]
    unfold delK
    cases hk : keq x.key k with
    | true =>
      rw [show (x.key.toList == k.toList) = true from hk, List.filter_cons_of_neg (by simp [hk])]
      simp only [Bool.not_true, cond_false]
      exact ih acc (by omega)
    | false =>
      rw [show (x.key.toList == k.toList) = false from hk, List.filter_cons_of_pos (by simp [hk])]
      simp only [Bool.not_false, cond_true]
      rw [dec_t (by simp <;> omega), dec_t (by rw [rP_len]; unfold maxRow; omega)]
      have e : rP acc ++ [x.r] = rP (acc ++ [x]) := by simp
      rw [e, ih (acc ++ [x]) (by simp; omega), List.append_assoc]; rfl
theorem del_ok {m : Nat} (hm : 1048590 ≤ m) (l : List DPair) (k : ByteArray) (hl : l.length ≤ 1048576) (K : T → An) : spec_DelKey m (.l (rP l)) (.s k) K = K (.l (rP (delK l k))) := by
  obtain ⟨m, rfl⟩ : ∃ m', m = m' + 1 := ⟨m - 1, by omega⟩
  simp only [spec_DelKey, T.rows_l]
  exact (del_loop m k l [] [] (by simpa using hl) (by simpa using hl) m (by omega) _).trans rfl
theorem delK_len (l : List DPair) (k : ByteArray) : (delK l k).length ≤ l.length := List.length_filter_le _ _
/-! all of an order -/
def app1 (m : List DPair) (o : DOp) : List DPair := if o.kind = 1 then putK m o.key o.val else if o.kind = 2 then delK m o.key else m
def applyP (m : List DPair) (l : List DOp) : List DPair := l.foldl app1 m
theorem app1_len (m : List DPair) (o : DOp) : (app1 m o).length ≤ m.length + 1 := by
  unfold app1
  split
  · exact putK_len _ _ _
  · split
    · have := delK_len m o.key; omega
    · omega
theorem applyP_len : ∀ (l : List DOp) (m : List DPair), (applyP m l).length ≤ m.length + l.length
  | [], m => by simp [applyP]
  | o :: l, m => by
    have h1 := app1_len m o
    have h2 := applyP_len l (app1 m o)
    show (applyP (app1 m o) l).length ≤ _
    simp; omega
theorem apply_loop (m : Nat) (hm : 1048600 ≤ m) : ∀ (post pre : List DOp) (acc : List DPair), pre.length + post.length ≤ 1048576 → acc.length + post.length ≤ 1048576 → ∀ n, post.length < n → ∀ k0,
    spec_Apply_L0_0 m n (.l (rO (pre ++ post))) (.i pre.length) (.l (rP acc)) k0 = k0 (.l (rP (applyP acc post)))
  | [], pre, acc, hs, ha, n, hn, k0 => by
    obtain ⟨n, rfl⟩ : ∃ m', n = m' + 1 := ⟨n - 1, by omega⟩
    simp only [spec_Apply_L0_0, T.int_i, T.rows_l]
    rw [dec_f (by simp)]
    rfl
  | x :: post, pre, acc, hs, ha, n, hn, k0 => by
    obtain ⟨n, rfl⟩ : ∃ m', n = m' + 1 := ⟨n - 1, by omega⟩
    simp only [List.length_cons] at hs hn ha
    have h1 := app1_len acc x
    have ih := apply_loop m hm post (pre ++ [x]) (app1 acc x) (by simp; omega) (by omega) n (by omega) k0
    rw [len_snoc, List.append_assoc, List.singleton_append] at ih
    have hB : decide ((0 : Int) ≤ (pre.length : Int) ∧ (pre.length : Int) < ((rO (pre ++ x :: post)).length : Int)) = true := decide_eq_true (by simp; omega)
    simp only [spec_Apply_L0_0, T.int_i, T.rows_l, ixO, ix_nx pre (by omega), o0, od1, od2, hB, cond_true]
    rw [dec_t (by simp <;> omega), putK_ok acc x.key x.val (by omega) (by omega), del_ok (by omega) acc x.key (by omega)]
    simp only [T.rows_l]
    show _ = k0 (.l (rP (applyP (app1 acc x) post)))
    rw [← ih]
    unfold app1
    by_cases h1 : x.kind = 1
    · rw [cond_t (by simp [h1]), if_pos h1]
    · rw [cond_f (by simp [h1]), if_neg h1]
      by_cases h2 : x.kind = 2
      · rw [cond_t (by simp [h2]), if_pos h2]
      · rw [cond_f (by simp [h2]), if_neg h2]
theorem apply_ok {m : Nat} (hm : 1048610 ≤ m) (mp : List DPair) (l : List DOp) (hs : mp.length + l.length ≤ 1048576) (K : T → An) : spec_Apply m (.l (rP mp)) (.l (rO l)) K = K (.l (rP (applyP mp l))) := by
  obtain ⟨m, rfl⟩ : ∃ m', m = m' + 1 := ⟨m - 1, by omega⟩
  simp only [spec_Apply, T.rows_l]
  rw [dec_t (by rw [rP_len]; unfold maxRow; omega)]
  exact (apply_loop m (by omega) l [] mp (by simp; omega) (by omega) m (by omega) _).trans rfl
end Go.Proofs.Ytjjonejgbdbnjaa

namespace Go.Proofs.Ytjjonejgbdbnjaa
open Go Go.E Go.Proofs
/-! records -/
abbrev rR (l : List DRec) : List (List T) := l.map DRec.r
theorem rR_len (l : List DRec) : (rR l).length = l.length := by simp
theorem ixR (pre : List DRec) (x : DRec) (post : List DRec) : (rR (pre ++ x :: post)).getD (Int.toNat (pre.length : Int)) [] = x.r := by simp [List.getD]
theorem r0 (x : DRec) : x.r.getD 0 dflt = .i x.kind := rfl
theorem r1 (x : DRec) : x.r.getD 1 dflt = .i x.tx := rfl
theorem r2 (x : DRec) : x.r.getD 2 dflt = .l (rO x.ops) := rfl
theorem rd1 (x : DRec) : (x.r.drop 1).getD 0 dflt = .i x.tx := rfl
theorem rd2 (x : DRec) : (x.r.drop 2).getD 0 dflt = .l (rO x.ops) := rfl
theorem r_eta (x : DRec) : [T.i x.kind, T.i x.tx, T.l (rO x.ops)] = x.r := rfl
def BRec (r : DRec) : Prop := r.ops.length ≤ 400000 ∧ ∀ o ∈ r.ops, BOp o
def BRecs (l : List DRec) : Prop := l.length ≤ 400000 ∧ ∀ r ∈ l, BRec r
theorem BRec.ops {r : DRec} (h : BRec r) : BOps r.ops := ⟨by have := h.1; omega, h.2⟩
def fstR (tx : Int) : List DRec → Option Nat
  | [] => none
  | r :: l => if r.tx = tx then some 0 else (fstR tx l).map (· + 1)
theorem fstR_lt {tx : Int} : ∀ {l : List DRec} {j : Nat}, fstR tx l = some j → j < l.length
  | [], j, h => by cases h
  | r :: l, j, h => by
    unfold fstR at h
    split at h
    · cases h; simp
    · cases h2 : fstR tx l with
      | none => rw [h2] at h; cases h
      | some i => rw [h2] at h; cases h; have := fstR_lt h2; simp; omega
def atI (tx : Int) (l : List DRec) : Int := match fstR tx l with | some j => (j : Int) | none => -1
theorem at_loop (m : Nat) (tx : Int) : ∀ (post pre : List DRec), pre.length + post.length ≤ 1048576 → ∀ n, post.length < n → ∀ k0 k1,
    spec_l8At_L0_0 m n (.l (rR (pre ++ post))) (.i tx) (.i pre.length) k0 k1 = match fstR tx post with
      | some j => k0 (.i ((pre.length + j : Nat) : Int))
      | none => k1
  | [], pre, hs, n, hn, k0, k1 => by
    obtain ⟨n, rfl⟩ : ∃ m', n = m' + 1 := ⟨n - 1, by omega⟩
    simp only [spec_l8At_L0_0, T.int_i, T.rows_l, fstR]
    rw [dec_f (by simp)]
  | x :: post, pre, hs, n, hn, k0, k1 => by
    obtain ⟨n, rfl⟩ : ∃ m', n = m' + 1 := ⟨n - 1, by omega⟩
    simp only [List.length_cons] at hs hn
    have ih := at_loop m tx post (pre ++ [x]) (by simp; omega) n (by omega) k0 k1
    rw [len_snoc, List.append_assoc, List.singleton_append] at ih
    simp only [spec_l8At_L0_0, T.int_i, T.rows_l, ixR, ix_nx pre (by omega), rd1]
    rw [dec_t (by simp <;> omega), dec_t (by simp <;> omega)]
    unfold fstR
    by_cases h : x.tx = tx
    · rw [cond_t (by simpa using h), if_pos h]; rfl
    · rw [cond_f (by simpa using h), if_neg h, ih]
      cases fstR tx post with
      | none => rfl
      | some j =>
        have e : (pre ++ [x]).length + j = pre.length + (j + 1) := by simp; omega
        simp only [Option.map_some, e]
theorem at_ok {m : Nat} (hm : 1048590 ≤ m) (l : List DRec) (tx : Int) (hl : l.length ≤ 1048576) (K : T → An) : spec_l8At m (.l (rR l)) (.i tx) K = K (.i (atI tx l)) := by
  obtain ⟨m, rfl⟩ : ∃ m', m = m' + 1 := ⟨m - 1, by omega⟩
  simp only [spec_l8At, T.rows_l]
  refine (at_loop m tx l [] (by simpa using hl) m (by omega) _ _).trans ?_
  unfold atI
  cases fstR tx l <;> simp
/-! keys that are held -/
def lockO (ops : List DOp) (o : DOp) : Bool := ops.any fun q => keq o.key q.key
def lockR (ops : List DOp) (r : DRec) : Bool := r.ops.any (lockO ops)
def lockedP (held : List DRec) (ops : List DOp) : Bool := held.any (lockR ops)
theorem lock2 (m : Nat) (hp hq : List DRec) (r : DRec) (op oq : List DOp) (o : DOp) (hr : r.ops = op ++ o :: oq) (h1 : hp.length ≤ 1048576) (h2 : op.length ≤ 1048576) : ∀ (post pre : List DOp), pre.length + post.length ≤ 1048576 → ∀ n, post.length < n → ∀ k0 k1,
    spec_l8Locked_L2_0 m n (.l (rR (hp ++ r :: hq))) (.l (rO (pre ++ post))) (.i hp.length) (.i op.length) (.i pre.length) k0 k1 = cond (lockO post o) (k0 (.b true)) (k1 (.l (rR (hp ++ r :: hq))) (.l (rO (pre ++ post))) (.i hp.length) (.i op.length))
  | [], pre, hs, n, hn, k0, k1 => by
    obtain ⟨n, rfl⟩ : ∃ m', n = m' + 1 := ⟨n - 1, by omega⟩
    simp only [spec_l8Locked_L2_0, T.int_i, T.rows_l]
    rw [dec_f (by simp)]
    rfl
  | x :: post, pre, hs, n, hn, k0, k1 => by
    obtain ⟨n, rfl⟩ : ∃ m', n = m' + 1 := ⟨n - 1, by omega⟩
    simp only [List.length_cons] at hs hn
    have ih := lock2 m hp hq r op oq o hr h1 h2 post (pre ++ [x]) (by simp; omega) n (by omega) k0 k1
    rw [len_snoc, List.append_assoc, List.singleton_append] at ih
    simp only [spec_l8Locked_L2_0, T.int_i, T.rows_l, ixR, ixO, ix_nx pre (by omega), rd2, hr, od1, T.str_s]
    rw [dec_t (by simp <;> omega), dec_t (by simp <;> omega), dec_t (by simp <;> omega), dec_t (by simp <;> omega)]
    show _ = cond (keq o.key x.key || lockO post o) _ _
    cases h : keq o.key x.key with
    | true => rw [cond_t (show (o.key.toList == x.key.toList) = true from h)]; rfl
    | false => rw [cond_f (show (o.key.toList == x.key.toList) = false from h), ih]; rfl
theorem lock1 (m : Nat) (hp hq : List DRec) (r : DRec) (ops : List DOp) (h1 : hp.length ≤ 1048576) (h2 : r.ops.length ≤ 1048576) (h3 : ops.length ≤ 1048576) : ∀ (oq op : List DOp), r.ops = op ++ oq → ∀ n, oq.length + ops.length + 1 < n → ∀ k0 k1,
    spec_l8Locked_L1_0 m n (.l (rR (hp ++ r :: hq))) (.l (rO ops)) (.i hp.length) (.i op.length) k0 k1 = cond (oq.any (lockO ops)) (k0 (.b true)) (k1 (.l (rR (hp ++ r :: hq))) (.l (rO ops)) (.i hp.length))
  | [], op, hr, n, hn, k0, k1 => by
    obtain ⟨n, rfl⟩ : ∃ m', n = m' + 1 := ⟨n - 1, by omega⟩
    simp only [spec_l8Locked_L1_0, T.int_i, T.rows_l, ixR, rd2, hr]
    rw [dec_t (by simp <;> omega), dec_f (by simp)]
    rfl
  | o :: oq, op, hr, n, hn, k0, k1 => by
    obtain ⟨n, rfl⟩ : ∃ m', n = m' + 1 := ⟨n - 1, by omega⟩
    simp only [List.length_cons] at hn
    have hlo : op.length + (oq.length + 1) ≤ 1048576 := by rw [hr] at h2; simpa using h2
    have ih := lock1 m hp hq r ops h1 h2 h3 oq (op ++ [o]) (by rw [hr]; simp) n (by omega) k0 k1
    rw [len_snoc] at ih
    have l2 := lock2 m hp hq r op oq o hr h1 (by omega) ops [] (by simpa using h3) n (by omega) k0
    simp only [List.nil_append, List.length_nil, Int.natCast_zero] at l2
    simp only [spec_l8Locked_L1_0, T.int_i, T.rows_l, ixR, rd2, hr]
    rw [dec_t (by simp <;> omega), dec_t (by simp <;> omega)]
    refine (l2 _).trans ?_
    simp only [T.int_i, ix_nx op (by omega), List.any_cons]
    rw [ih]
    cases lockO ops o <;> rfl
theorem lock0 (m : Nat) (ops : List DOp) (h3 : ops.length ≤ 1048576) : ∀ (hq hp : List DRec), (∀ r ∈ hq, r.ops.length ≤ 1048576) → hp.length + hq.length ≤ 1048576 → ∀ n, hq.length + ops.length + 1048580 < n → ∀ k0 k1,
    spec_l8Locked_L0_0 m n (.l (rR (hp ++ hq))) (.l (rO ops)) (.i hp.length) k0 k1 = cond (lockedP hq ops) (k0 (.b true)) k1
  | [], hp, ho, hs, n, hn, k0, k1 => by
    obtain ⟨n, rfl⟩ : ∃ m', n = m' + 1 := ⟨n - 1, by omega⟩
    simp only [spec_l8Locked_L0_0, T.int_i, T.rows_l]
    rw [dec_f (by simp)]
    rfl
  | r :: hq, hp, ho, hs, n, hn, k0, k1 => by
    obtain ⟨n, rfl⟩ : ∃ m', n = m' + 1 := ⟨n - 1, by omega⟩
    simp only [List.length_cons] at hn hs
    have hr := ho r (by simp)
    have ih := lock0 m ops h3 hq (hp ++ [r]) (fun q hq => ho q (by simp [hq])) (by simp; omega) n (by omega) k0 k1
    rw [len_snoc, List.append_assoc, List.singleton_append] at ih
    simp only [spec_l8Locked_L0_0, T.int_i, T.rows_l]
    rw [dec_t (by simp <;> omega)]
    have l1 := lock1 m hp hq r ops (by omega) hr h3 r.ops [] rfl n (by omega) k0
    simp only [List.length_nil, Int.natCast_zero] at l1
    refine (l1 _).trans ?_
    simp only [T.int_i, ix_nx hp (by omega)]
    show cond (lockR ops r) _ _ = cond (lockR ops r || lockedP hq ops) _ _
    rw [ih]
    cases lockR ops r <;> rfl
theorem locked_ok {m : Nat} (hm : 3200000 ≤ m) (held : List DRec) (ops : List DOp) (h1 : held.length ≤ 1048576) (h2 : ∀ r ∈ held, r.ops.length ≤ 1048576) (h3 : ops.length ≤ 1048576) (K : T → An) :
    spec_l8Locked m (.l (rR held)) (.l (rO ops)) K = K (.b (lockedP held ops)) := by
  obtain ⟨m, rfl⟩ : ∃ m', m = m' + 1 := ⟨m - 1, by omega⟩
  simp only [spec_l8Locked, T.rows_l]
  refine (lock0 m ops h3 held [] h2 (by simpa using h1) m (by omega) _ _).trans ?_
  cases lockedP held ops <;> rfl
/-! a record that is right -/
def recOkP (r : DRec) : Bool := decide (1 ≤ r.tx ∧ r.tx ≤ 1000000) && (if r.kind = 1 then opsOkP r.ops else if r.kind = 2 ∨ r.kind = 3 then r.ops.length == 0 else false)
theorem recOk_ok {m : Nat} (hm : 1048610 ≤ m) (r : DRec) (h : BRec r) (K : T → An) : spec_RecOk m (.i r.kind) (.i r.tx) (.l (rO r.ops)) K = K (.b (recOkP r)) := by
  obtain ⟨m, rfl⟩ : ∃ m', m = m' + 1 := ⟨m - 1, by omega⟩
  have e0 : (((rO r.ops).length : Int) == 0) = (r.ops.length == 0) := by rw [rO_len]; cases r.ops <;> simp <;> omega
  simp only [spec_RecOk, T.rows_l, T.int_i]
  rw [l1In_ok (by omega)]
  simp only [T.bool_b, e0]
  unfold recOkP
  cases h1 : decide (1 ≤ r.tx ∧ r.tx ≤ 1000000) with
  | false => rfl
  | true =>
    simp only [Bool.not_true, cond_false, Bool.true_and]
    by_cases k1 : r.kind = 1
    · rw [cond_t (by simp [k1]), if_pos k1, specOps_ok (by omega) r.ops h.ops]
    · rw [cond_f (by simp [k1]), if_neg k1]
      by_cases k2 : r.kind = 2
      · rw [cond_t (by simp [k2]), if_pos (.inl k2)]
      · rw [cond_f (by simp [k2])]
        by_cases k3 : r.kind = 3
        · rw [cond_t (by simp [k3]), if_pos (.inr k3)]
        · rw [cond_f (by simp [k3]), if_neg (by simp [k2, k3])]
theorem copyOps {m : Nat} (hm : 1 ≤ m) (l : List DOp) (h : l.length ≤ 1048576) (K : T → An) : spec_l7CopyOps m (.l (rO l)) K = K (.l (rO l)) := by
  obtain ⟨m, rfl⟩ : ∃ m', m = m' + 1 := ⟨m - 1, by omega⟩
  simp only [spec_l7CopyOps, T.rows_l, rO_len]
  rw [dec_t (by unfold maxRow; omega)]
theorem copyRec {m : Nat} (hm : 2 ≤ m) (a b : T) (l : List DOp) (h : l.length ≤ 1048576) (K : T → T → T → An) : spec_l8CopyRec m a b (.l (rO l)) K = K a b (.l (rO l)) := by
  obtain ⟨m, rfl⟩ : ∃ m', m = m' + 1 := ⟨m - 1, by omega⟩
  simp only [spec_l8CopyRec, T.rows_l]
  rw [copyOps (by omega) l h]
  rfl
/-! one record more -/
structure St where
  map : List DPair
  held : List DRec
  seen : List Int
def oneP (s : St) (r : DRec) : Bool × St :=
  if recOkP r = false then (false, s)
  else if r.kind = 1 then
    if decide (r.tx ∈ s.seen) || lockedP s.held r.ops || !meetsP s.map r.ops then (false, s)
    else (true, ⟨s.map, s.held ++ [r], s.seen ++ [r.tx]⟩)
  else match fstR r.tx s.held with
    | none => (r.kind == 3 && !decide (r.tx ∈ s.seen), ⟨s.map, s.held, s.seen ++ [r.tx]⟩)
    | some j =>
      let m' := if r.kind = 2 then applyP s.map (s.held.getD j default).ops else s.map
      (decide (m'.length ≤ 60), ⟨m', s.held.take j ++ s.held.drop (j + 1), s.seen⟩)
structure BSt (s : St) : Prop where
  map : s.map.length ≤ 400000
  held : BRecs s.held
  seen : s.seen.length ≤ 400000
theorem getD_of {α : Type} [Inhabited α] (l : List α) {j : Nat} (h : j < l.length) : ∃ pre x post, l = pre ++ x :: post ∧ pre.length = j ∧ l.getD j default = x ∧ l.take j = pre ∧ l.drop (j + 1) = post :=
  ⟨l.take j, l[j], l.drop (j + 1), by simp, by simp; omega, by simp [List.getD, h], rfl, rfl⟩
theorem le60 (n : Nat) : decide ((n : Int) ≤ 60) = decide (n ≤ 60) := decide_eq_decide.2 (by omega)
theorem one_ok {m : Nat} (hm : 3200010 ≤ m) (s : St) (hs : BSt s) (r : DRec) (hr : BRec r) (J : T → T → T → T → An) :
    spec_l8One m (.l (rP s.map)) (.l (rR s.held)) (.l (ir s.seen)) (.i r.kind) (.i r.tx) (.l (rO r.ops)) (fun a b c d => J a b c d) (fun a _ b c d => J a b c d) =
      J (.b (oneP s r).1) (.l (rP (oneP s r).2.map)) (.l (rR (oneP s r).2.held)) (.l (ir (oneP s r).2.seen)) := by
  obtain ⟨m, rfl⟩ : ∃ m', m = m' + 1 := ⟨m - 1, by omega⟩
  have hmp := hs.map
  have hhl := hs.held.1
  have hsl := hs.seen
  have hol := hr.1
  simp only [spec_l8One, T.rows_l]
  rw [at_ok (by omega) s.held r.tx (by omega), recOk_ok (by omega) r hr]
  simp only [T.bool_b, T.int_i]
  unfold oneP
  cases h1 : recOkP r with
  | false => rfl
  | true =>
    simp only [Bool.not_true, cond_false, Bool.true_eq_false, if_false]
    by_cases k1 : r.kind = 1
    · rw [cond_t (by simp [k1]), if_pos k1, jn, has_ok s.seen r.tx (by omega) (by omega)]
      simp only [T.bool_b, k1]
      cases h2 : decide (r.tx ∈ s.seen) with
      | true => simp
      | false =>
        rw [cond_t (by rfl), locked_ok (by omega) s.held r.ops (by omega) (fun q hq => by have := (hs.held.2 q hq).1; omega) (by omega)]
        simp only [T.bool_b, Bool.false_or]
        cases h3 : lockedP s.held r.ops with
        | true => simp
        | false =>
          rw [cond_t (by rfl), meets_ok (by omega) s.map r.ops (by omega) (by omega)]
          simp only [T.bool_b, Bool.false_or]
          cases h4 : meetsP s.map r.ops with
          | false => simp
          | true =>
            simp only [Bool.not_true, cond_false, Bool.false_eq_true, if_false]
            rw [copyRec (by omega) _ _ r.ops (by omega), dec_t (by rw [rR_len]; unfold maxRow; omega), dec_t (by rw [ir_len]; unfold maxRow; omega)]
            have e : T.i 1 = T.i r.kind := by rw [k1]
            simp only [T.rows_l, e, r_eta]
            simp [rR, ir, iRow]
    · rw [cond_f (by simp [k1]), if_neg k1]
      unfold atI
      cases hf : fstR r.tx s.held with
      | none =>
        simp only []
        rw [dec_t (by omega)]
        by_cases k3 : r.kind = 3
        · rw [cond_t (by simp [k3]), has_ok s.seen r.tx (by omega) (by omega), dec_t (by rw [ir_len]; unfold maxRow; omega)]
          simp [k3, ir, iRow]
        · rw [cond_f (by simp [k3]), dec_t (by rw [ir_len]; unfold maxRow; omega), beq_eq_false_iff_ne.2 k3]
          simp [ir, iRow]
      | some j =>
        obtain ⟨pre, x, post, e1, rfl, e3, e4, e5⟩ := getD_of s.held (fstR_lt hf)
        have hxl : x.ops.length ≤ 400000 := (hs.held.2 x (by rw [e1]; simp)).1
        have hpl : pre.length + post.length + 1 ≤ 400000 := by rw [e1] at hhl; simp at hhl; omega
        simp only [e3, e4, e5]
        rw [e1]
        have f1 : IntKind.i64.wrap ((pre.length : Int) + 1) = (pre.length : Int) + 1 := ix_nx pre (by omega)
        have f2 : Int.toNat ((pre.length : Int) + 1) = pre.length + 1 := by omega
        have f3 : (rR (pre ++ x :: post)).take (Int.toNat (pre.length : Int)) = rR pre := by simp [rR]
        have f4 : ((rR (pre ++ x :: post)).take (Int.toNat ((rR (pre ++ x :: post)).length : Int))).drop (pre.length + 1) = rR post := by
          rw [Int.toNat_natCast, List.take_length]
          simp [rR, List.drop_append, Nat.add_sub_cancel_left]
        have f5 : (rR (pre ++ x :: post)).length = pre.length + post.length + 1 := by simp; omega
        simp only [ixR, r2, f1, f2, f3, f4, T.rows_l]
        rw [dec_f (by omega)]
        by_cases k2 : r.kind = 2
        · rw [cond_t (by simp [k2]), if_pos k2, apply_ok (by omega) s.map x.ops (by omega)]
          simp only [T.rows_l]
          rw [dec_t (by omega), dec_t (by omega), dec_t (by omega), dec_t (by omega), dec_t (by rw [rR_len]; unfold maxRow; omega), dec_t (by omega), dec_t (by omega), dec_t (by rw [rR_len, rR_len]; unfold maxRow; omega)]
          rw [rP_len, le60]
          simp [rR]
        · rw [cond_f (by simp [k2]), if_neg k2]
          rw [dec_t (by omega), dec_t (by omega), dec_t (by rw [rR_len]; unfold maxRow; omega), dec_t (by omega), dec_t (by omega), dec_t (by rw [rR_len, rR_len]; unfold maxRow; omega)]
          rw [rP_len, le60]
          simp [rR]
end Go.Proofs.Ytjjonejgbdbnjaa

namespace Go.Proofs.Ytjjonejgbdbnjaa
open Go Go.E Go.Proofs
/-! replays -/
def SRec (r : DRec) : Prop := r.ops.length ≤ 8 ∧ ∀ o ∈ r.ops, BOp o
theorem SRec.b {r : DRec} (h : SRec r) : BRec r := ⟨by have := h.1; omega, h.2⟩
theorem opsOk_len {l : List DOp} (h : opsOkP l = true) : 1 ≤ l.length ∧ l.length ≤ 8 := by
  unfold opsOkP at h
  simp only [Bool.and_eq_true, decide_eq_true_eq] at h
  exact h.2
def replayGo : St → List DRec → Option St
  | s, [] => some s
  | s, r :: l => if (oneP s r).1 then replayGo (oneP s r).2 l else none
def st0 : St := ⟨[], [], []⟩
structure GSt (k : Nat) (s : St) : Prop where
  map : s.map.length ≤ 8 * k
  heldl : s.held.length ≤ k
  held : ∀ r ∈ s.held, SRec r
  seen : s.seen.length ≤ k
theorem GSt.b {k : Nat} {s : St} (h : GSt k s) (hk : k ≤ 20000) : BSt s := ⟨by have := h.map; omega, ⟨by have := h.heldl; omega, fun r hr => (h.held r hr).b⟩, by have := h.seen; omega⟩
theorem GSt.mono {k k' : Nat} {s : St} (h : GSt k s) (hk : k ≤ k') : GSt k' s := ⟨by have := h.map; omega, by have := h.heldl; omega, h.held, by have := h.seen; omega⟩
theorem mem_cut {α : Type} {l : List α} {j : Nat} {x : α} (h : x ∈ l.take j ++ l.drop (j + 1)) : x ∈ l := by
  rcases List.mem_append.1 h with h | h
  · exact List.mem_of_mem_take h
  · exact List.mem_of_mem_drop h
theorem one_g {k : Nat} {s : St} (h : GSt k s) {r : DRec} (hr : ∀ o ∈ r.ops, BOp o) : GSt (k + 1) (oneP s r).2 := by
  have h1 := h.map
  have h2 := h.heldl
  have h3 := h.seen
  unfold oneP
  split
  · exact h.mono (by omega)
  · rename_i hok
    split
    · rename_i hk
      split
      · exact h.mono (by omega)
      · refine ⟨by simp; omega, by simp; omega, fun q hq => ?_, by simp; omega⟩
        rcases List.mem_append.1 hq with hq | hq
        · exact h.held q hq
        · rw [List.mem_singleton.1 hq]
          refine ⟨?_, hr⟩
          simp only [Bool.not_eq_false] at hok
          unfold recOkP at hok
          rw [if_pos hk] at hok
          simp only [Bool.and_eq_true] at hok
          exact (opsOk_len hok.2).2
    · split
      · refine ⟨by simp; omega, by simp; omega, h.held, by simp; omega⟩
      · rename_i j hj
        refine ⟨?_, ?_, fun q hq => h.held q (mem_cut hq), by simp; omega⟩
        · simp only
          split
          · have e := applyP_len (s.held.getD j default).ops s.map
            obtain ⟨pre, x, post, e1, -, e3, -⟩ := getD_of s.held (fstR_lt hj)
            have := (h.held x (by rw [e1]; simp)).1
            rw [e3] at e ⊢
            omega
          · omega
        · have := fstR_lt hj
          simp; omega
theorem replay_loop (m : Nat) (hm : 3200010 ≤ m) : ∀ (post pre : List DRec) (k : Nat) (s : St), GSt k s → k + post.length ≤ 20000 → (∀ r ∈ post, BRec r) → pre.length + post.length ≤ 1048576 → ∀ n, post.length < n → ∀ k0 k1,
    spec_ReplayRecs_L0_0 m n (.l (rR (pre ++ post))) (.i 0) (.i pre.length) (.l (rP s.map)) (.l (rR s.held)) (.l (ir s.seen)) k0 k1 = match replayGo s post with
      | none => k0 (.b false) (.l []) (.l [])
      | some s' => k1 (.i 0) (.l (rP s'.map)) (.l (rR s'.held)) (.l (ir s'.seen))
  | [], pre, k, s, hg, hk, hr, hs, n, hn, k0, k1 => by
    obtain ⟨n, rfl⟩ : ∃ m', n = m' + 1 := ⟨n - 1, by omega⟩
    simp only [spec_ReplayRecs_L0_0, T.int_i, T.rows_l, replayGo]
    rw [dec_f (by simp)]
    rfl
  | x :: post, pre, k, s, hg, hk, hr, hs, n, hn, k0, k1 => by
    obtain ⟨n, rfl⟩ : ∃ m', n = m' + 1 := ⟨n - 1, by omega⟩
    simp only [List.length_cons] at hs hn hk
    have hx := hr x (by simp)
    have ih := replay_loop m hm post (pre ++ [x]) (k + 1) (oneP s x).2 (one_g hg hx.2) (by omega) (fun r h => hr r (by simp [h])) (by simp; omega) n (by omega) k0 k1
    rw [len_snoc, List.append_assoc, List.singleton_append] at ih
    simp only [spec_ReplayRecs_L0_0, T.int_i, T.rows_l, ixR, ix_nx pre (by omega), r0, r1, r2]
    rw [dec_t (by simp <;> omega), dec_t (by simp <;> omega)]
    refine (one_ok hm s (hg.b (by omega)) x hx (fun a b c d => cond (!a.bool) (k0 (.b false) (.l []) (.l [])) (spec_ReplayRecs_L0_0 m n (.l (rR (pre ++ x :: post))) (T.i (((0 : Int).toNat : Nat) : Int)) (T.i ((pre.length : Int) + 1)) (T.l b.rows) (T.l c.rows) (T.l d.rows) k0 k1))).trans ?_
    simp only [T.bool_b, T.rows_l]
    unfold replayGo
    cases h : (oneP s x).1 with
    | false => rfl
    | true => exact ih
def mapOf (o : Option St) : List DPair := match o with | some s => s.map | none => []
def heldOf (o : Option St) : List DRec := match o with | some s => s.held | none => []
def replayP (l : List DRec) : Option St := replayGo st0 l
theorem replay_ok {m : Nat} (hm : 3200020 ≤ m) (l : List DRec) (hl : l.length ≤ 10000) (hr : ∀ r ∈ l, BRec r) (K : T → T → T → An) :
    spec_ReplayRecs m (.l (rR l)) K = K (.l (rP (mapOf (replayP l)))) (.l (rR (heldOf (replayP l)))) (.b (replayP l).isSome) := by
  obtain ⟨m, rfl⟩ : ∃ m', m = m' + 1 := ⟨m - 1, by omega⟩
  simp only [spec_ReplayRecs, T.rows_l]
  refine (replay_loop m (by omega) l [] 0 st0 ⟨by simp [st0], by simp [st0], by simp [st0], by simp [st0]⟩ (by omega) hr (by simp; omega) m (by omega) _ _).trans ?_
  unfold replayP
  cases replayGo st0 l <;> rfl
/-! shards -/
def out1 (tx : Int) (acc : Int) (r : DRec) : Int := if r.tx = tx then (if r.kind = 2 then 3 else if r.kind = 3 then 4 else acc) else acc
def outcomeP (s : DShard) (tx : Int) : Int := if (fstR tx s.held).isSome then 1 else s.log.foldl (out1 tx) 2
theorem out_loop (m : Nat) (tx : Int) (x4 x6 : T) (l7 l8 : List (List T)) : ∀ (post pre : List DRec) (acc : Int), pre.length + post.length ≤ 1048576 → ∀ n, post.length < n → ∀ k0,
    spec_l9Outcome_L0_0 m n (.i tx) (.i 0) (.i acc) (.i pre.length) x4 (.l (rR (pre ++ post))) x6 (.l l7) (.l l8) k0 = k0 (.i (post.foldl (out1 tx) acc))
  | [], pre, acc, hs, n, hn, k0 => by
    obtain ⟨n, rfl⟩ : ∃ m', n = m' + 1 := ⟨n - 1, by omega⟩
    simp only [spec_l9Outcome_L0_0, T.int_i, T.rows_l]
    rw [dec_f (by simp)]
    rfl
  | x :: post, pre, acc, hs, n, hn, k0 => by
    obtain ⟨n, rfl⟩ : ∃ m', n = m' + 1 := ⟨n - 1, by omega⟩
    simp only [List.length_cons] at hs hn
    have ih := fun acc => out_loop m tx x4 x6 l7 l8 post (pre ++ [x]) acc (by simp; omega) n (by omega) k0
    rw [len_snoc, List.append_assoc, List.singleton_append] at ih
    have hB : decide ((0 : Int) ≤ (pre.length : Int) ∧ (pre.length : Int) < ((rR (pre ++ x :: post)).length : Int)) = true := decide_eq_true (by simp; omega)
    simp only [spec_l9Outcome_L0_0, jn, T.int_i, T.rows_l, ixR, ix_nx pre (by omega), r0, rd1, hB, cond_true]
    rw [dec_t (by simp <;> omega), List.foldl_cons, ← ih]
    unfold out1
    by_cases h : x.tx = tx
    · rw [if_pos h]
      simp only [show (x.tx == tx) = true from by simpa using h, beq_self_eq_true, cond_true]
      by_cases h2 : x.kind = 2
      · simp [h2]
      · have b2 := beq_eq_false_iff_ne.2 h2
        by_cases h3 : x.kind = 3
        · simp [h3]
        · have b3 := beq_eq_false_iff_ne.2 h3
          simp only [b2, b3, if_neg h2, if_neg h3, cond_false]
          rfl
    · rw [if_neg h]
      simp only [show (x.tx == tx) = false from by simpa using h]
      rfl
theorem outcome_ok {m : Nat} (hm : 1048600 ≤ m) (s : DShard) (tx : Int) (h1 : s.log.length ≤ 1048576) (h2 : s.held.length ≤ 1048576) (K : T → An) :
    spec_l9Outcome m (.i s.id) (.l (rR s.log)) (.i s.sure) (.l (rP s.map)) (.l (rR s.held)) (.i tx) K = K (.i (outcomeP s tx)) := by
  obtain ⟨m, rfl⟩ : ∃ m', m = m' + 1 := ⟨m - 1, by omega⟩
  simp only [spec_l9Outcome, T.rows_l]
  rw [at_ok (by omega) s.held tx h2]
  unfold outcomeP atI
  cases fstR tx s.held with
  | some j => simp only [T.int_i]; rw [dec_t (by omega)]; rfl
  | none =>
    simp only [T.int_i]
    rw [dec_f (by omega)]
    exact (out_loop m tx _ _ _ _ s.log [] 2 (by simpa using h1) m (by omega) _).trans rfl
def sumOps (l : List DRec) : Nat := (l.map fun r => r.ops.length).sum
def keysP (s : DShard) (ops : List DOp) : Nat := s.map.length + ops.length + sumOps s.held
theorem keys_loop (m : Nat) (x3 x5 : T) (l4 l6 : List (List T)) : ∀ (post pre : List DRec) (acc : Nat), pre.length + post.length ≤ 1048576 → (∀ r ∈ post, r.ops.length ≤ 1048576) → acc + post.length * 1048576 ≤ 4611686018427387 → ∀ n, post.length < n → ∀ k0,
    spec_l9Keys_L0_0 m n (.i 0) (.i (acc : Int)) (.i pre.length) x3 (.l l4) x5 (.l l6) (.l (rR (pre ++ post))) k0 = k0 (.i ((acc + sumOps post : Nat) : Int))
  | [], pre, acc, hs, ho, ha, n, hn, k0 => by
    obtain ⟨n, rfl⟩ : ∃ m', n = m' + 1 := ⟨n - 1, by omega⟩
    simp only [spec_l9Keys_L0_0, T.int_i, T.rows_l]
    rw [dec_f (by simp)]
    rfl
  | x :: post, pre, acc, hs, ho, ha, n, hn, k0 => by
    obtain ⟨n, rfl⟩ : ∃ m', n = m' + 1 := ⟨n - 1, by omega⟩
    simp only [List.length_cons] at hs hn ha
    have hx := ho x (by simp)
    have ih := keys_loop m x3 x5 l4 l6 post (pre ++ [x]) (acc + x.ops.length) (by simp; omega) (fun r hr => ho r (by simp [hr])) (by omega) n (by omega) k0
    rw [len_snoc, List.append_assoc, List.singleton_append] at ih
    have ew : IntKind.i64.wrap ((acc : Int) + ((rO x.ops).length : Int)) = ((acc + x.ops.length : Nat) : Int) := by rw [rO_len, wrap_i64 (by omega) (by omega)]; omega
    simp only [spec_l9Keys_L0_0, T.int_i, T.rows_l, ixR, ix_nx pre (by omega), rd2, ew]
    rw [dec_t (by simp <;> omega), dec_t (by simp <;> omega)]
    refine Eq.trans (by rfl) (ih.trans ?_)
    simp [sumOps, Nat.add_assoc]
theorem keys_ok {m : Nat} (hm : 1048600 ≤ m) (s : DShard) (ops : List DOp) (h1 : s.map.length ≤ 1048576) (h2 : s.held.length ≤ 1048576) (h3 : ops.length ≤ 1048576) (h4 : ∀ r ∈ s.held, r.ops.length ≤ 1048576) (K : T → An) :
    spec_l9Keys m (.i s.id) (.l (rR s.log)) (.i s.sure) (.l (rP s.map)) (.l (rR s.held)) (.l (rO ops)) K = K (.i (keysP s ops : Nat)) := by
  obtain ⟨m, rfl⟩ : ∃ m', m = m' + 1 := ⟨m - 1, by omega⟩
  simp only [spec_l9Keys, T.rows_l]
  have ew : IntKind.i64.wrap (((rP s.map).length : Int) + ((rO ops).length : Int)) = ((s.map.length + ops.length : Nat) : Int) := by rw [rO_len, rP_len, wrap_i64 (by omega) (by omega)]; omega
  rw [ew]
  exact (keys_loop m _ _ _ _ s.held [] (s.map.length + ops.length) (by simpa using h2) h4 (by omega) m (by omega) _).trans rfl
def writeP (s : DShard) (r : DRec) : DShard := { s with log := s.log ++ [r], map := (oneP ⟨s.map, s.held, []⟩ r).2.map, held := (oneP ⟨s.map, s.held, []⟩ r).2.held }
structure BShard (s : DShard) : Prop where
  logl : s.log.length ≤ 1000
  log : ∀ r ∈ s.log, SRec r
  heldl : s.held.length ≤ 1000
  held : ∀ r ∈ s.held, SRec r
  map : s.map.length ≤ 10000
  sure : 0 ≤ s.sure ∧ s.sure ≤ s.log.length
theorem BShard.st {s : DShard} (h : BShard s) : BSt ⟨s.map, s.held, []⟩ := ⟨by have := h.map; simp; omega, ⟨by have := h.heldl; simp; omega, fun r hr => (h.held r hr).b⟩, by simp⟩
theorem write_ok {m : Nat} (hm : 3200020 ≤ m) (s : DShard) (hs : BShard s) (r : DRec) (hr : BRec r) (J : T → T → T → T → T → An) :
    spec_l9Write m (.i s.id) (.l (rR s.log)) (.i s.sure) (.l (rP s.map)) (.l (rR s.held)) (.i r.kind) (.i r.tx) (.l (rO r.ops)) (fun a b c d e => J a b c d e) (fun _ a b c d e => J a b c d e) =
      J (.i s.id) (.l (rR (writeP s r).log)) (.i s.sure) (.l (rP (writeP s r).map)) (.l (rR (writeP s r).held)) := by
  obtain ⟨m, rfl⟩ : ∃ m', m = m' + 1 := ⟨m - 1, by omega⟩
  have hl := hs.logl
  have ho := hr.1
  simp only [spec_l9Write, T.rows_l]
  have key : ∀ (c d : T), spec_l8CopyRec m (.i r.kind) (.i r.tx) (.l (rO r.ops)) (fun y9 y10 y11 => cond (decide (((rR s.log).length + 1) * 3 ≤ maxRow)) (J (.i s.id) (T.l (rR s.log ++ [[y9, y10, (T.l y11.rows)]])) (.i s.sure) (T.l c.rows) (T.l d.rows)) (.bad)) = J (.i s.id) (.l (rR (writeP s r).log)) (.i s.sure) (T.l c.rows) (T.l d.rows) := by
    intro c d
    rw [copyRec (by omega) _ _ r.ops (by omega), dec_t (by rw [rR_len]; unfold maxRow; omega)]
    simp only [T.rows_l, r_eta]
    congr 2
    simp [rR, writeP]
  refine (one_ok (by omega) ⟨s.map, s.held, []⟩ hs.st r hr (fun a b c d => spec_l8CopyRec m (.i r.kind) (.i r.tx) (.l (rO r.ops)) (fun y9 y10 y11 => cond (decide (((rR s.log).length + 1) * 3 ≤ maxRow)) (J (.i s.id) (T.l (rR s.log ++ [[y9, y10, (T.l y11.rows)]])) (.i s.sure) (T.l b.rows) (T.l c.rows)) (.bad)))).trans ?_
  exact key _ _
def holdP (s : DShard) (tx : Int) (ops : List DOp) : Int × DShard :=
  if decide (1 ≤ tx ∧ tx ≤ 1000000) = false ∨ opsOkP ops = false then (5, s)
  else if outcomeP s tx ≠ 2 then (outcomeP s tx, s)
  else if lockedP s.held ops = true ∨ meetsP s.map ops = false ∨ 60 < keysP s ops ∨ 300 < s.log.length + s.held.length + 2 then (2, s)
  else (1, writeP s ⟨1, tx, ops⟩)
theorem sumOps_le {B : Nat} : ∀ {l : List DRec}, (∀ r ∈ l, r.ops.length ≤ B) → sumOps l ≤ l.length * B
  | [], _ => by simp [sumOps]
  | r :: l, h => by
    have h1 := h r (by simp)
    have h2 := sumOps_le (B := B) (l := l) fun q hq => h q (List.mem_cons_of_mem _ hq)
    simp only [sumOps, List.map_cons, List.sum_cons, List.length_cons] at *
    rw [Nat.add_mul]; omega
theorem hold_ok {m : Nat} (hm : 3200030 ≤ m) (s : DShard) (hs : BShard s) (tx : Int) (ops : List DOp) (ho : BOps ops) (hol : ops.length ≤ 400000) (J : T → T → T → T → T → T → An) :
    spec_l9Hold m (.i s.id) (.l (rR s.log)) (.i s.sure) (.l (rP s.map)) (.l (rR s.held)) (.i tx) (.l (rO ops)) (fun a b c d e f => J a b c d e f) (fun a _ b c d e f => J a b c d e f) =
      J (.i (holdP s tx ops).1) (.i s.id) (.l (rR (holdP s tx ops).2.log)) (.i s.sure) (.l (rP (holdP s tx ops).2.map)) (.l (rR (holdP s tx ops).2.held)) := by
  obtain ⟨m, rfl⟩ : ∃ m', m = m' + 1 := ⟨m - 1, by omega⟩
  have h1 := hs.logl
  have h2 := hs.heldl
  have h3 := hs.map
  simp only [spec_l9Hold, jn, T.rows_l]
  rw [l1In_ok (by omega)]
  simp only [T.bool_b]
  unfold holdP
  cases c1 : decide (1 ≤ tx ∧ tx ≤ 1000000) with
  | false => simp
  | true =>
    rw [cond_t (by rfl), specOps_ok (by omega) ops ho]
    simp only [T.bool_b]
    cases c2 : opsOkP ops with
    | false => simp
    | true =>
      simp only [Bool.not_true, cond_false, Bool.true_eq_false, false_or, if_false]
      rw [outcome_ok (by omega) s tx (by omega) (by omega)]
      simp only [T.int_i]
      by_cases c3 : outcomeP s tx = 2
      · rw [cond_f (by simp [c3]), if_neg (by simp [c3]), locked_ok (by omega) s.held ops (by omega) (fun r hr => by have := (hs.held r hr).1; omega) (by omega)]
        simp only [T.bool_b]
        cases c4 : lockedP s.held ops with
        | true => simp
        | false =>
          rw [cond_t (by rfl), meets_ok (by omega) s.map ops (by omega) (by omega)]
          simp only [T.bool_b]
          cases c5 : meetsP s.map ops with
          | false => simp
          | true =>
            rw [cond_t (by rfl), keys_ok (by omega) s ops (by omega) (by omega) (by omega) (fun r hr => by have := (hs.held r hr).1; omega)]
            simp only [T.int_i]
            have ew : IntKind.i64.wrap ((IntKind.i64.wrap (((rR s.log).length : Int) + ((rR s.held).length : Int))) + 2) = ((s.log.length + s.held.length + 2 : Nat) : Int) := by
              have e0 : IntKind.i64.wrap ((s.log.length : Int) + (s.held.length : Int)) = (s.log.length : Int) + (s.held.length : Int) := wrap_i64 (by omega) (by omega)
              rw [rR_len, rR_len, e0, wrap_i64 (by omega) (by omega)]; omega
            rw [ew]
            by_cases c6 : 60 < keysP s ops
            · rw [cond_f (by simp; omega), if_pos (by simp [c6])]
            · rw [cond_t (by simp; omega)]
              by_cases c7 : 300 < s.log.length + s.held.length + 2
              · rw [dec_t (by omega), if_pos (by simp [c7])]
              · rw [dec_f (by omega), if_neg (by simp only [Bool.false_eq_true, Bool.true_eq_false, false_or]; omega), copyOps (by omega) ops (by omega)]
                simp only [T.rows_l]
                exact (write_ok (by omega) s hs ⟨1, tx, ops⟩ ⟨hol, ho.2⟩ (fun a b c d e => J (.i 1) a (T.l b.rows) c (T.l d.rows) (T.l e.rows))).trans rfl
      · rw [cond_t (by simpa using c3), if_pos c3]
def decideP (s : DShard) (tx : Int) (yes : Bool) : Bool × DShard :=
  if decide (1 ≤ tx ∧ tx ≤ 1000000) = false then (false, s)
  else if outcomeP s tx = 1 then (true, writeP s ⟨if yes then 2 else 3, tx, []⟩)
  else if outcomeP s tx = 3 then (yes, s)
  else if outcomeP s tx = 4 then (!yes, s)
  else if yes = true ∨ 300 ≤ s.log.length + s.held.length then (false, s)
  else (true, writeP s ⟨3, tx, []⟩)
theorem decide_ok {m : Nat} (hm : 3200030 ≤ m) (s : DShard) (hs : BShard s) (tx : Int) (yes : Bool) (J : T → T → T → T → T → T → An) :
    spec_l9Decide m (.i s.id) (.l (rR s.log)) (.i s.sure) (.l (rP s.map)) (.l (rR s.held)) (.i tx) (.b yes) (fun a b c d e f => J a b c d e f) (fun a _ b c d e f => J a b c d e f) =
      J (.b (decideP s tx yes).1) (.i s.id) (.l (rR (decideP s tx yes).2.log)) (.i s.sure) (.l (rP (decideP s tx yes).2.map)) (.l (rR (decideP s tx yes).2.held)) := by
  obtain ⟨m, rfl⟩ : ∃ m', m = m' + 1 := ⟨m - 1, by omega⟩
  have h1 := hs.logl
  have h2 := hs.heldl
  simp only [spec_l9Decide, jn, T.rows_l]
  rw [l1In_ok (by omega)]
  simp only [T.bool_b]
  unfold decideP
  cases c1 : decide (1 ≤ tx ∧ tx ≤ 1000000) with
  | false => simp
  | true =>
    simp only [Bool.not_true, cond_false, Bool.true_eq_false, if_false]
    have W : ∀ (k : Int), spec_l9Write m (.i s.id) (T.l (rR s.log)) (.i s.sure) (T.l (rP s.map)) (T.l (rR s.held)) (.i k) (.i tx) (T.l [])
        (fun y3 y4 y5 y6 y7 => J (T.b true) y3 (T.l y4.rows) y5 (T.l y6.rows) (T.l y7.rows)) (fun y8 y9 y10 y11 y12 y13 => J (T.b true) y9 (T.l y10.rows) y11 (T.l y12.rows) (T.l y13.rows)) =
        J (.b true) (.i s.id) (.l (rR (writeP s ⟨k, tx, []⟩).log)) (.i s.sure) (.l (rP (writeP s ⟨k, tx, []⟩).map)) (.l (rR (writeP s ⟨k, tx, []⟩).held)) := fun k =>
      (write_ok (by omega) s hs ⟨k, tx, []⟩ ⟨by simp, by simp⟩ (fun a b c d e => J (.b true) a (T.l b.rows) c (T.l d.rows) (T.l e.rows))).trans rfl
    have body : ∀ k : Int, (k = if yes then 2 else 3) → spec_l9Outcome m (.i s.id) (T.l (rR s.log)) (.i s.sure) (T.l (rP s.map)) (T.l (rR s.held)) (.i tx)
        (fun y2 => cond (y2.int == 1)
          (spec_l9Write m (.i s.id) (T.l (rR s.log)) (.i s.sure) (T.l (rP s.map)) (T.l (rR s.held)) (.i k) (.i tx) (T.l [])
            (fun y3 y4 y5 y6 y7 => J (T.b true) y3 (T.l y4.rows) y5 (T.l y6.rows) (T.l y7.rows)) (fun y8 y9 y10 y11 y12 y13 => J (T.b true) y9 (T.l y10.rows) y11 (T.l y12.rows) (T.l y13.rows)))
          (cond (y2.int == 3) (J (.b yes) (.i s.id) (T.l (rR s.log)) (.i s.sure) (T.l (rP s.map)) (T.l (rR s.held)))
            (cond (y2.int == 4) (J (T.b (!yes)) (.i s.id) (T.l (rR s.log)) (.i s.sure) (T.l (rP s.map)) (T.l (rR s.held)))
              (cond (yes == false)
                (cond (decide ((IntKind.i64.wrap (((rR s.log).length : Int) + ((rR s.held).length : Int))) ≥ 300))
                  (J (T.b false) (.i s.id) (T.l (rR s.log)) (.i s.sure) (T.l (rP s.map)) (T.l (rR s.held)))
                  (spec_l9Write m (.i s.id) (T.l (rR s.log)) (.i s.sure) (T.l (rP s.map)) (T.l (rR s.held)) (.i k) (.i tx) (T.l [])
                    (fun y3 y4 y5 y6 y7 => J (T.b true) y3 (T.l y4.rows) y5 (T.l y6.rows) (T.l y7.rows)) (fun y8 y9 y10 y11 y12 y13 => J (T.b true) y9 (T.l y10.rows) y11 (T.l y12.rows) (T.l y13.rows))))
                (J (T.b false) (.i s.id) (T.l (rR s.log)) (.i s.sure) (T.l (rP s.map)) (T.l (rR s.held))))))) =
        (fun q : Bool × DShard => J (.b q.1) (.i s.id) (.l (rR q.2.log)) (.i s.sure) (.l (rP q.2.map)) (.l (rR q.2.held))) (if outcomeP s tx = 1 then (true, writeP s ⟨if yes then 2 else 3, tx, []⟩)
  else if outcomeP s tx = 3 then (yes, s)
  else if outcomeP s tx = 4 then (!yes, s)
  else if yes = true ∨ 300 ≤ s.log.length + s.held.length then (false, s)
  else (true, writeP s ⟨3, tx, []⟩)) := by
      intro k hk
      rw [outcome_ok (by omega) s tx (by omega) (by omega), W]
      simp only [T.int_i]
      by_cases o1 : outcomeP s tx = 1
      · rw [cond_t (by simpa using o1), if_pos o1, hk]
      · rw [cond_f (by simpa using o1), if_neg o1]
        by_cases o3 : outcomeP s tx = 3
        · rw [cond_t (by simpa using o3), if_pos o3]
        · rw [cond_f (by simpa using o3), if_neg o3]
          by_cases o4 : outcomeP s tx = 4
          · rw [cond_t (by simpa using o4), if_pos o4]
          · rw [cond_f (by simpa using o4), if_neg o4]
            have ew : IntKind.i64.wrap (((rR s.log).length : Int) + ((rR s.held).length : Int)) = ((s.log.length + s.held.length : Nat) : Int) := by
              rw [rR_len, rR_len, wrap_i64 (by omega) (by omega)]; omega
            rw [ew]
            cases yes with
            | true => simp
            | false =>
              by_cases c7 : 300 ≤ s.log.length + s.held.length
              · rw [cond_t (by rfl), dec_t (by omega), if_pos (.inr c7)]
              · rw [cond_t (by rfl), dec_f (by omega), if_neg (by simp; omega), hk]
                rfl
    cases yes with
    | true => exact body 2 rfl
    | false => exact body 3 rfl
def crashP (s : DShard) (keep : Int) : DShard :=
  let k := min (max keep 0) (s.log.length - s.sure)
  let l := s.log.take (s.sure + k).toNat
  { s with log := l, sure := l.length, map := mapOf (replayP l), held := heldOf (replayP l) }
theorem scrash_ok {m : Nat} (hm : 3200030 ≤ m) (s : DShard) (hs : BShard s) (keep : Int) (hk : keep ≤ 4611686018427387) (J : T → T → T → T → T → An) :
    spec_l9Crash m (.i s.id) (.l (rR s.log)) (.i s.sure) (.l (rP s.map)) (.l (rR s.held)) (.i keep) (fun _ _ a b c d e => J a b c d e) =
      J (.i s.id) (.l (rR (crashP s keep).log)) (.i (crashP s keep).sure) (.l (rP (crashP s keep).map)) (.l (rR (crashP s keep).held)) := by
  obtain ⟨m, rfl⟩ : ∃ m', m = m' + 1 := ⟨m - 1, by omega⟩
  have h1 := hs.logl
  have h2 := hs.sure
  obtain ⟨k, hkd⟩ : ∃ k, k = min (max keep 0) ((s.log.length : Int) - s.sure) := ⟨_, rfl⟩
  have e1 : IntKind.i64.wrap (((rR s.log).length : Int) - s.sure) = (s.log.length : Int) - s.sure := by rw [rR_len]; exact wrap_i64 (by omega) (by omega)
  have e2 : IntKind.i64.wrap (s.sure + k) = s.sure + k := wrap_i64 (by omega) (by omega)
  have key : spec_ReplayRecs m (T.l ((rR s.log).take (Int.toNat (s.sure + k)))) (fun y2 y3 y4 => J (.i s.id) (T.l ((rR s.log).take (Int.toNat (s.sure + k)))) (T.i (((rR s.log).take (Int.toNat (s.sure + k))).length : Int)) (T.l y2.rows) (T.l y3.rows)) = J (.i s.id) (.l (rR (crashP s keep).log)) (.i (crashP s keep).sure) (.l (rP (crashP s keep).map)) (.l (rR (crashP s keep).held)) := by
    have et : (rR s.log).take (Int.toNat (s.sure + k)) = rR (s.log.take (Int.toNat (s.sure + k))) := by simp [rR, List.map_take]
    rw [et, replay_ok (by omega) _ (by simp; omega) (fun r hr => (hs.log r (List.mem_of_mem_take hr)).b), rR_len]
    unfold crashP
    rw [← hkd]
    rfl
  simp only [spec_l9Crash, jn, T.rows_l, T.int_i, e1]
  have fin : cond (decide ((0 : Int) ≤ (IntKind.i64.wrap (s.sure + k)) ∧ (IntKind.i64.wrap (s.sure + k)) ≤ ((rR s.log).length : Int))) (cond (decide ((0 : Int) ≤ 0 ∧ 0 ≤ (IntKind.i64.wrap (s.sure + k)))) (spec_ReplayRecs m (T.l ((rR s.log).take (Int.toNat (IntKind.i64.wrap (s.sure + k))))) (fun y2 y3 y4 => J (.i s.id) (T.l ((rR s.log).take (Int.toNat (IntKind.i64.wrap (s.sure + k))))) (T.i (((rR s.log).take (Int.toNat (IntKind.i64.wrap (s.sure + k)))).length : Int)) (T.l y2.rows) (T.l y3.rows))) .bad) .bad = J (.i s.id) (.l (rR (crashP s keep).log)) (.i (crashP s keep).sure) (.l (rP (crashP s keep).map)) (.l (rR (crashP s keep).held)) := by
    rw [e2, dec_t (by rw [rR_len]; omega), dec_t (by omega)]
    exact key
  by_cases hn : keep < 0
  · rw [dec_t hn]
    by_cases hg : (0 : Int) > (s.log.length : Int) - s.sure
    · omega
    · rw [dec_f hg]
      have : k = 0 := by omega
      rw [this] at fin
      exact fin
  · rw [dec_f hn]
    by_cases hg : keep > (s.log.length : Int) - s.sure
    · rw [dec_t hg]
      have : k = (s.log.length : Int) - s.sure := by omega
      rw [this] at fin
      exact fin
    · rw [dec_f hg]
      have : k = keep := by omega
      rw [this] at fin
      exact fin
end Go.Proofs.Ytjjonejgbdbnjaa

