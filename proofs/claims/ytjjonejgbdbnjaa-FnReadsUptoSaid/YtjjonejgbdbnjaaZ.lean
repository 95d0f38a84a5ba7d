/- A part of the proof: texts RZ5, RZ1, RZ2, RI, RW0: see the last part's opening words. -/
import Derived.Test.YtjjonejgbdbnjaaD
import Derived.Test.YtjjonejgbdbnjaaProg
import Derived.Test.YtjjonejgbdbnjaaRows
import Derived.JoinedCond
import Derived.OpenShut
set_option linter.unusedVariables false
set_option linter.unusedSimpArgs false
set_option linter.unnecessarySimpa false
namespace Go.Proofs.Ytjjonejgbdbnjaa
open Go Go.E Go.Proofs
def keyE (x1 : T) (r : List T) : Bool := (r.getD 0 dflt).str.toList == x1.str.toList
def keyLe (x1 : T) (r : List T) : Bool := (Op.bytesLess (r.getD 0 dflt).str.toList x1.str.toList) || ((r.getD 0 dflt).str.toList == x1.str.toList)
/-- the place of a key -/
def fstK (x1 : T) : List (List T) → Option Nat
  | [] => none
  | r :: l => if keyE x1 r then some 0 else (fstK x1 l).map (· + 1)
/-- how many keys stand ahead of a new one -/
def cntLe (x1 : T) : List (List T) → Nat
  | [] => 0
  | r :: l => if keyLe x1 r then cntLe x1 l + 1 else 0
theorem cntLe_le (x1 : T) : ∀ l, cntLe x1 l ≤ l.length
  | [] => by simp [cntLe]
  | r :: l => by
    have := cntLe_le x1 l
    unfold cntLe
    split <;> simp <;> omega
def putP (l : List (List T)) (x1 x2 : T) : List (List T) := match fstK x1 l with
  | some j => l.set j ((l.getD j []).set 1 x2)
  | none => l.take (cntLe x1 l) ++ [[x1, x2]] ++ l.drop (cntLe x1 l)
theorem fstK_lt (x1 : T) : ∀ {l : List (List T)} {j : Nat}, fstK x1 l = some j → j < l.length
  | [], j, h => by cases h
  | r :: l, j, h => by
    unfold fstK at h
    split at h
    · cases h; simp
    · cases h2 : fstK x1 l with
      | none => rw [h2] at h; cases h
      | some i =>
        rw [h2] at h
        cases h
        have := fstK_lt x1 h2
        simp; omega
theorem putP_len (l : List (List T)) (x1 x2 : T) : l.length ≤ (putP l x1 x2).length ∧ (putP l x1 x2).length ≤ l.length + 1 := by
  unfold putP
  split
  · simp
  · have := cntLe_le x1 l
    simp; omega
/-! spec.PutKey -/
theorem putKey_loop0 (m : Nat) (l x1 x2 : T) : ∀ (post pre : List (List T)), pre.length + post.length ≤ 4611686018427387 → ∀ n, post.length < n → ∀ k0 k1,
    spec_PutKey_L0_0 m n l x1 x2 (.i pre.length) (.l (pre ++ post)) k0 k1 =
      match fstK x1 post with
      | some j => k0 (.l ((pre ++ post).set (pre.length + j) (((pre ++ post).getD (pre.length + j) []).set 1 x2)))
      | none => k1 l x1 x2
  | [], pre, hs, n, hn, k0, k1 => by
    obtain ⟨n, rfl⟩ : ∃ m', n = m' + 1 := ⟨n - 1, by omega⟩
    simp only [spec_PutKey_L0_0, T.int_i, T.rows_l, fstK]
    rw [dec_f (by simp)]
  | x :: post, pre, hs, n, hn, k0, k1 => by
    obtain ⟨n, rfl⟩ : ∃ m', n = m' + 1 := ⟨n - 1, by omega⟩
    simp only [List.length_cons] at hs hn
    have ih := putKey_loop0 m l x1 x2 post (pre ++ [x]) (by simp; omega) n (by omega) k0 k1
    rw [len_snoc, List.append_assoc, List.singleton_append] at ih
    simp only [spec_PutKey_L0_0, T.int_i, T.rows_l, ix_row, ix_nx pre (by omega), fstK]
    rw [dec_t (by simp <;> omega), dec_t (by simp <;> omega), dec_t (by simp)]
    cases hk : keyE x1 x with
    | true =>
      rw [cond_t (show ((x.getD 0 dflt).str.toList == x1.str.toList) = true from hk), dec_t (by simp <;> omega), dec_t (by simp)]
      simp only [if_true, Nat.add_zero]
      rw [show (pre ++ x :: post).getD pre.length [] = x from ix_row pre x post]
      rfl
    | false =>
      rw [cond_f (show ((x.getD 0 dflt).str.toList == x1.str.toList) = false from hk)]
      refine ih.trans ?_
      simp only [Bool.false_eq_true, if_false]
      cases fstK x1 post with
      | none => rfl
      | some j =>
        have e : (pre ++ [x]).length + j = pre.length + (j + 1) := by simp; omega
        simp only [Option.map_some, e]
theorem putKey_loop1 (m : Nat) (x1 x2 : T) : ∀ (post pre : List (List T)), pre.length + post.length ≤ 4611686018427387 → ∀ n, post.length < n → ∀ k0,
    spec_PutKey_L1_0 m n (.l (pre ++ post)) x1 x2 (.i pre.length) k0 = k0 (.l (pre ++ post)) x1 x2 (.i ((pre.length + cntLe x1 post : Nat) : Int))
  | [], pre, hs, n, hn, k0 => by
    obtain ⟨n, rfl⟩ : ∃ m', n = m' + 1 := ⟨n - 1, by omega⟩
    simp only [spec_PutKey_L1_0, T.int_i, T.rows_l, cntLe]
    rw [cond_f (by simp)]
    rfl
  | x :: post, pre, hs, n, hn, k0 => by
    obtain ⟨n, rfl⟩ : ∃ m', n = m' + 1 := ⟨n - 1, by omega⟩
    simp only [List.length_cons] at hs hn
    have ih := putKey_loop1 m x1 x2 post (pre ++ [x]) (by simp; omega) n (by omega) k0
    rw [len_snoc, List.append_assoc, List.singleton_append] at ih
    simp only [spec_PutKey_L1_0, T.int_i, T.rows_l, ix_row, ix_nx pre (by omega), cntLe]
    rw [cond_t (by simp <;> omega), dec_t (by simp <;> omega)]
    cases hk : keyLe x1 x with
    | true =>
      rw [cond_t (show ((Op.bytesLess (x.getD 0 dflt).str.toList x1.str.toList) || ((x.getD 0 dflt).str.toList == x1.str.toList)) = true from hk)]
      refine ih.trans ?_
      have e : (pre ++ [x]).length + cntLe x1 post = pre.length + (cntLe x1 post + 1) := by simp; omega
      rw [if_pos rfl, e]
    | false =>
      rw [cond_f (show ((Op.bytesLess (x.getD 0 dflt).str.toList x1.str.toList) || ((x.getD 0 dflt).str.toList == x1.str.toList)) = false from hk)]
      rfl
theorem specPut_ok {m : Nat} (l : List (List T)) (x1 x2 : T) (hl : l.length ≤ 1048576) (hm : 1048580 ≤ m) (k : T → An) : spec_PutKey m (.l l) x1 x2 k = k (.l (putP l x1 x2)) := by
  obtain ⟨m, rfl⟩ : ∃ m', m = m' + 1 := ⟨m - 1, by omega⟩
  simp only [spec_PutKey, T.rows_l]
  rw [dec_t (by unfold maxRow; omega)]
  refine (putKey_loop0 m (.l l) x1 x2 l [] (by simp; omega) m (by omega) _ _).trans ?_
  unfold putP
  cases fstK x1 l with
  | some j => simp
  | none =>
    simp only []
    refine (putKey_loop1 m x1 x2 l [] (by simp; omega) m (by omega) _).trans ?_
    have hc := cntLe_le x1 l
    simp only [T.rows_l, T.int_i, List.nil_append, List.length_nil, Nat.zero_add]
    have e1 : Int.toNat (cntLe x1 l : Int) = cntLe x1 l := rfl
    have e2 : Int.toNat (l.length : Int) = l.length := rfl
    rw [dec_t (by omega), dec_t (by omega), dec_t (by simp [maxRow]; omega), dec_t (by simp [maxRow]; omega), dec_t (by omega), dec_t (by omega), dec_t (by simp [maxRow]; omega)]
    rw [e1, e2, List.take_length]
/-! impl.putKey -/
theorem index_loop (m : Nat) (hm : 1 ≤ m) (x1 : T) (l : List (List T)) : ∀ (post pre : List (List T)), l = pre ++ post → l.length ≤ 4611686018427387 → ∀ n, post.length < n → ∀ k0 k1,
    slices_IndexFunc___impl_Pair_impl_Pair__L0_0 m n (.l l) (.l [[x1]]) (.i l.length) (.i pre.length) k0 k1 =
      match fstK x1 post with
      | some j => k0 (.i ((pre.length + j : Nat) : Int))
      | none => k1
  | [], pre, he, hs, n, hn, k0, k1 => by
    obtain ⟨n, rfl⟩ : ∃ m', n = m' + 1 := ⟨n - 1, by omega⟩
    subst he
    simp only [slices_IndexFunc___impl_Pair_impl_Pair__L0_0, T.int_i, T.rows_l, fstK]
    rw [dec_f (by simp)]
  | x :: post, pre, he, hs, n, hn, k0, k1 => by
    obtain ⟨n, rfl⟩ : ∃ m', n = m' + 1 := ⟨n - 1, by omega⟩
    obtain ⟨m, rfl⟩ : ∃ m', m = m' + 1 := ⟨m - 1, by omega⟩
    have ih := index_loop (m + 1) hm x1 l post (pre ++ [x]) (by rw [he]; simp) hs n (by simp at hn; omega) k0 k1
    subst he
    simp only [List.length_append, List.length_cons] at hs hn
    rw [len_snoc] at ih
    simp only [slices_IndexFunc___impl_Pair_impl_Pair__L0_0, T.int_i, T.rows_l, ix_row, ix_nx pre (by omega), fstK, impl_pairAt_1]
    rw [dec_t (by simp <;> omega), dec_t (by simp <;> omega)]
    have e0 : row1 (T.l [[x1]]) = [x1] := rfl
    simp only [e0, T.bool_b]
    cases hk : keyE x1 x with
    | true =>
      have hk' : (((x.getD 0 dflt).str.toList == ((row1 (T.l [[x1]])).getD 0 dflt).str.toList)) = true := hk
      rw [e0] at hk'
      rw [cond_t hk', if_pos rfl]
      rfl
    | false =>
      have hk' : (((x.getD 0 dflt).str.toList == ((row1 (T.l [[x1]])).getD 0 dflt).str.toList)) = false := hk
      rw [e0] at hk'
      rw [cond_f hk']
      refine ih.trans ?_
      simp only [Bool.false_eq_true, if_false]
      cases fstK x1 post with
      | none => rfl
      | some j =>
        have e : (pre ++ [x]).length + j = pre.length + (j + 1) := by simp; omega
        simp only [Option.map_some, e]
theorem implPut_loop (m : Nat) (x1 x2 : T) : ∀ (post pre : List (List T)), pre.length + post.length ≤ 4611686018427387 → ∀ n, post.length < n → ∀ k0,
    impl_putKey_L0_0 m n x1 x2 (.i pre.length) (.l (pre ++ post)) k0 = k0 x1 x2 (.i ((pre.length + cntLe x1 post : Nat) : Int)) (.l (pre ++ post))
  | [], pre, hs, n, hn, k0 => by
    obtain ⟨n, rfl⟩ : ∃ m', n = m' + 1 := ⟨n - 1, by omega⟩
    simp only [impl_putKey_L0_0, T.int_i, T.rows_l, cntLe]
    rw [cond_f (by simp)]
    rfl
  | x :: post, pre, hs, n, hn, k0 => by
    obtain ⟨n, rfl⟩ : ∃ m', n = m' + 1 := ⟨n - 1, by omega⟩
    simp only [List.length_cons] at hs hn
    have ih := implPut_loop m x1 x2 post (pre ++ [x]) (by simp; omega) n (by omega) k0
    rw [len_snoc, List.append_assoc, List.singleton_append] at ih
    simp only [impl_putKey_L0_0, T.int_i, T.rows_l, ix_row, ix_nx pre (by omega), cntLe]
    rw [cond_t (by simp <;> omega), dec_t (by simp <;> omega), dec_t (by simp)]
    cases hk : keyLe x1 x with
    | true =>
      rw [cond_t (show ((Op.bytesLess (x.getD 0 dflt).str.toList x1.str.toList) || ((x.getD 0 dflt).str.toList == x1.str.toList)) = true from hk)]
      refine ih.trans ?_
      have e : (pre ++ [x]).length + cntLe x1 post = pre.length + (cntLe x1 post + 1) := by simp; omega
      rw [if_pos rfl, e]
    | false =>
      rw [cond_f (show ((Op.bytesLess (x.getD 0 dflt).str.toList x1.str.toList) || ((x.getD 0 dflt).str.toList == x1.str.toList)) = false from hk)]
      rfl
theorem implPut_ok {m : Nat} (l : List (List T)) (x1 x2 : T) (hl : l.length ≤ 1048576) (hm : 1048600 ≤ m) (k : T → An) : impl_putKey m (.l l) x1 x2 k = k (.l (putP l x1 x2)) := by
  obtain ⟨m, rfl⟩ : ∃ m', m = m' + 4 := ⟨m - 4, by omega⟩
  simp only [impl_putKey, impl_pairAt, slices_IndexFunc___impl_Pair_impl_Pair_, T.rows_l]
  have e0 : row1 (T.l [[x1]]) = [x1] := rfl
  rw [e0]
  refine (index_loop (m + 1) (by omega) x1 l l [] rfl (by omega) (m + 1) (by omega) _ _).trans ?_
  unfold putP
  cases hf : fstK x1 l with
  | some j =>
    have hj := fstK_lt x1 hf
    simp only [List.length_nil, Nat.zero_add, T.int_i]
    have e1 : Int.toNat (j : Int) = j := rfl
    rw [dec_t (by omega), dec_t (by omega), dec_t (by omega), e1]
  | none =>
    simp only [T.int_i]
    rw [dec_f (by omega)]
    refine (implPut_loop (m + 3) x1 x2 l [] (by simp; omega) (m + 3) (by omega) _).trans ?_
    have hc := cntLe_le x1 l
    have e1 : Int.toNat (cntLe x1 l : Int) = cntLe x1 l := rfl
    simp only [slices_Insert___impl_Pair_impl_Pair_, T.rows_l, T.int_i, List.nil_append, List.length_nil, Nat.zero_add, e1]
    rw [cond_t (by simp [maxRow]; omega)]
/-- UnionOf -/
def foldP (a b : List (List T)) : List (List T) := b.foldl (fun acc r => putP acc (r.getD 0 dflt) (r.getD 1 dflt)) a
theorem foldP_cons (a : List (List T)) (x : List T) (b : List (List T)) : foldP a (x :: b) = foldP (putP a (x.getD 0 dflt) (x.getD 1 dflt)) b := rfl
theorem foldP_len : ∀ (b a : List (List T)), (foldP a b).length ≤ a.length + b.length
  | [], a => by simp [foldP]
  | x :: b, a => by
    rw [foldP_cons]
    have := foldP_len b (putP a (x.getD 0 dflt) (x.getD 1 dflt))
    have := (putP_len a (x.getD 0 dflt) (x.getD 1 dflt)).2
    simp only [List.length_cons]; omega
theorem drop1_getD (r : List T) : (r.drop 1).getD 0 dflt = r.getD 1 dflt := by simp [List.getD]
theorem specU_loop (m : Nat) (hm : 1048600 ≤ m) : ∀ (post pre acc : List (List T)), acc.length + post.length ≤ 1048576 → pre.length + post.length ≤ 1048576 → ∀ n, post.length < n → ∀ k0,
    spec_UnionOf_L0_0 m n (.l (pre ++ post)) (.i pre.length) (.l acc) k0 = k0 (.l (foldP acc post))
  | [], pre, acc, ha, hs, n, hn, k0 => by
    obtain ⟨n, rfl⟩ : ∃ m', n = m' + 1 := ⟨n - 1, by omega⟩
    simp only [spec_UnionOf_L0_0, T.int_i, T.rows_l]
    rw [dec_f (by simp)]
    rfl
  | x :: post, pre, acc, ha, hs, n, hn, k0 => by
    obtain ⟨n, rfl⟩ : ∃ m', n = m' + 1 := ⟨n - 1, by omega⟩
    simp only [List.length_cons] at ha hs hn
    have hp := (putP_len acc (x.getD 0 dflt) (x.getD 1 dflt)).2
    have ih := specU_loop m hm post (pre ++ [x]) (putP acc (x.getD 0 dflt) (x.getD 1 dflt)) (by omega) (by simp; omega) n (by omega) k0
    rw [len_snoc, List.append_assoc, List.singleton_append] at ih
    simp only [spec_UnionOf_L0_0, T.int_i, T.rows_l, ix_row, ix_nx pre (by omega), drop1_getD]
    rw [dec_t (by simp <;> omega), dec_t (by simp <;> omega), dec_t (by simp <;> omega)]
    rw [specPut_ok acc _ _ (by omega) (by omega), foldP_cons]
    exact ih
theorem specU_ok {m : Nat} (a b : List (List T)) (hl : a.length + b.length ≤ 1048576) (hm : 1048610 ≤ m) (k : T → An) : spec_UnionOf m (.l a) (.l b) k = k (.l (foldP a b)) := by
  obtain ⟨m, rfl⟩ : ∃ m', m = m' + 1 := ⟨m - 1, by omega⟩
  simp only [spec_UnionOf, T.rows_l]
  rw [dec_t (by unfold maxRow; omega)]
  exact specU_loop m (by omega) b [] a (by omega) (by simp; omega) m (by omega) _
theorem implU_loop (m : Nat) (hm : 1048600 ≤ m) (l : List (List T)) : ∀ (post pre acc : List (List T)), l = pre ++ post → acc.length + post.length ≤ 1048576 → pre.length + post.length ≤ 1048576 → ∀ n, post.length < n → ∀ k0,
    impl_UnionOf_L0_0 m n (.l l) (.i l.length) (.i pre.length) (.l acc) k0 = k0 (.l (foldP acc post))
  | [], pre, acc, he, ha, hs, n, hn, k0 => by
    obtain ⟨n, rfl⟩ : ∃ m', n = m' + 1 := ⟨n - 1, by omega⟩
    subst he
    simp only [impl_UnionOf_L0_0, T.int_i, T.rows_l]
    rw [dec_f (by simp)]
    rfl
  | x :: post, pre, acc, he, ha, hs, n, hn, k0 => by
    obtain ⟨n, rfl⟩ : ∃ m', n = m' + 1 := ⟨n - 1, by omega⟩
    simp only [List.length_cons] at ha hs hn
    have hp := (putP_len acc (x.getD 0 dflt) (x.getD 1 dflt)).2
    have ih := implU_loop m hm l post (pre ++ [x]) (putP acc (x.getD 0 dflt) (x.getD 1 dflt)) (by rw [he]; simp) (by omega) (by simp; omega) n (by omega) k0
    subst he
    rw [len_snoc] at ih
    simp only [impl_UnionOf_L0_0, T.int_i, T.rows_l, ix_row, ix_nx pre (by omega)]
    rw [dec_t (by simp <;> omega), dec_t (by simp <;> omega)]
    rw [implPut_ok acc _ _ (by omega) (by omega), foldP_cons]
    exact ih
theorem implU_ok {m : Nat} (a b : List (List T)) (hl : a.length + b.length ≤ 1048576) (hm : 1048610 ≤ m) (k : T → An) : impl_UnionOf m (.l a) (.l b) k = k (.l (foldP a b)) := by
  obtain ⟨m, rfl⟩ : ∃ m', m = m' + 2 := ⟨m - 2, by omega⟩
  simp only [impl_UnionOf, slices_Clone___impl_Pair_impl_Pair_, T.rows_l]
  rw [dec_t (by unfold maxRow; omega)]
  exact implU_loop (m + 1) (by omega) b b [] a rfl (by omega) (by simp; omega) (m + 1) (by omega) _
/-- Tables -/
def foldT (a : List (List T)) (ss : List (List T)) : List (List T) := ss.foldl (fun acc s => foldP acc (s.getD 3 dflt).rows) a
def mapsLen : List (List T) → Nat
  | [] => 0
  | s :: ss => (s.getD 3 dflt).rows.length + mapsLen ss
theorem foldT_cons (a : List (List T)) (x : List T) (b : List (List T)) : foldT a (x :: b) = foldT (foldP a (x.getD 3 dflt).rows) b := rfl
theorem foldT_len : ∀ (b a : List (List T)), (foldT a b).length ≤ a.length + mapsLen b
  | [], a => by simp [foldT, mapsLen]
  | x :: b, a => by
    rw [foldT_cons]
    have := foldT_len b (foldP a (x.getD 3 dflt).rows)
    have := foldP_len (x.getD 3 dflt).rows a
    simp only [mapsLen]; omega
theorem drop3_getD (r : List T) : (r.drop 3).getD 0 dflt = r.getD 3 dflt := by simp [List.getD]
theorem specT_loop (m : Nat) (hm : 1048700 ≤ m) (x2 x3 x4 x5 x6 x7 x9 x10 x11 : T) : ∀ (post pre acc : List (List T)) (x0 : T), acc.length + mapsLen post ≤ 1048576 → pre.length + post.length ≤ 1048576 → ∀ n, post.length < n → ∀ k0,
    spec_Tables_L0_0 m n x0 (.i pre.length) x2 x3 x4 x5 x6 x7 (.l (pre ++ post)) x9 x10 x11 (.l acc) k0 = k0 (.l (foldT acc post))
  | [], pre, acc, x0, ha, hs, n, hn, k0 => by
    obtain ⟨n, rfl⟩ : ∃ m', n = m' + 1 := ⟨n - 1, by omega⟩
    simp only [spec_Tables_L0_0, T.int_i, T.rows_l]
    rw [dec_f (by simp)]
    rfl
  | x :: post, pre, acc, x0, ha, hs, n, hn, k0 => by
    obtain ⟨n, rfl⟩ : ∃ m', n = m' + 1 := ⟨n - 1, by omega⟩
    simp only [List.length_cons] at hs hn
    simp only [mapsLen] at ha
    have hp := foldP_len (x.getD 3 dflt).rows acc
    have ih := fun x0 => specT_loop m hm x2 x3 x4 x5 x6 x7 x9 x10 x11 post (pre ++ [x]) (foldP acc (x.getD 3 dflt).rows) x0 (by omega) (by simp; omega) n (by omega) k0
    rw [len_snoc, List.append_assoc, List.singleton_append] at ih
    simp only [spec_Tables_L0_0, T.int_i, T.rows_l, ix_row, ix_nx pre (by omega), drop3_getD]
    rw [dec_t (by simp <;> omega), dec_t (by simp <;> omega)]
    rw [specU_ok acc _ (by omega) (by omega), foldT_cons]
    exact ih _
theorem implT_loop (m : Nat) (hm : 1048700 ≤ m) (l : List (List T)) : ∀ (post pre acc : List (List T)), l = pre ++ post → acc.length + mapsLen post ≤ 1048576 → pre.length + post.length ≤ 1048576 → ∀ n, post.length < n → ∀ k0,
    impl_Tables_L0_0 m n (.l l) (.i l.length) (.i pre.length) (.l acc) k0 = k0 (.l (foldT acc post))
  | [], pre, acc, he, ha, hs, n, hn, k0 => by
    obtain ⟨n, rfl⟩ : ∃ m', n = m' + 1 := ⟨n - 1, by omega⟩
    subst he
    simp only [impl_Tables_L0_0, T.int_i, T.rows_l]
    rw [dec_f (by simp)]
    rfl
  | x :: post, pre, acc, he, ha, hs, n, hn, k0 => by
    obtain ⟨n, rfl⟩ : ∃ m', n = m' + 1 := ⟨n - 1, by omega⟩
    simp only [List.length_cons] at hs hn
    simp only [mapsLen] at ha
    have hp := foldP_len (x.getD 3 dflt).rows acc
    have ih := implT_loop m hm l post (pre ++ [x]) (foldP acc (x.getD 3 dflt).rows) (by rw [he]; simp) (by omega) (by simp; omega) n (by omega) k0
    subst he
    rw [len_snoc] at ih
    simp only [impl_Tables_L0_0, T.int_i, T.rows_l, ix_row, ix_nx pre (by omega)]
    rw [dec_t (by simp <;> omega), dec_t (by simp <;> omega)]
    rw [implU_ok acc _ (by omega) (by omega), foldT_cons]
    exact ih
theorem specT_ok {m : Nat} (hm : 1048800 ≤ m) (x0 x1 x2 x3 x4 x5 x7 x8 x9 : T) (ss : List (List T)) (hl : mapsLen ss ≤ 1048576) (hs : ss.length ≤ 1048576) (k : T → An) :
    spec_Tables m x0 x1 x2 x3 x4 x5 (.l ss) x7 x8 x9 k = k (.l (foldT [] ss)) := by
  obtain ⟨m, rfl⟩ : ∃ m', m = m' + 1 := ⟨m - 1, by omega⟩
  simp only [spec_Tables, T.rows_l]
  exact specT_loop m (by omega) _ _ _ _ _ _ _ _ _ ss [] [] _ (by simpa using hl) (by simpa using hs) m (by omega) _
theorem implT_ok {m : Nat} (hm : 1048800 ≤ m) (x0 x1 x2 x3 x4 x5 x7 x8 x9 : T) (ss : List (List T)) (hl : mapsLen ss ≤ 1048576) (hs : ss.length ≤ 1048576) (k : T → An) :
    impl_Tables m x0 x1 x2 x3 x4 x5 (.l ss) x7 x8 x9 k = k (.l (foldT [] ss)) := by
  obtain ⟨m, rfl⟩ : ∃ m', m = m' + 1 := ⟨m - 1, by omega⟩
  simp only [impl_Tables, T.rows_l]
  exact implT_loop m (by omega) ss ss [] [] rfl (by simpa using hl) (by simpa using hs) m (by omega) _
end Go.Proofs.Ytjjonejgbdbnjaa

namespace Go.Proofs.Ytjjonejgbdbnjaa
open Go Go.E Go.Proofs
/-! a new world -/
def sh0 (i : Nat) : DShard := ⟨(i : Int), [], 0, [], []⟩
theorem new_loop (m : Nat) (hm : 3 ≤ m) (N : Nat) (hN : N ≤ 8) (x4 x5 x6 x7 x8 x9 x10 x11 : T) (l12 l13 l14 l15 l16 l17 l18 l19 l21 l22 l23 : List (List T)) : ∀ (j i : Nat), i + j = N → ∀ n, j < n → ∀ k0,
    spec_WorldNew_L0_0 m n (.i (N : Int)) (.i 0) (.i 0) (.i (i : Int)) x4 x5 x6 x7 x8 x9 x10 x11 (.l l12) (.l l13) (.l l14) (.l l15) (.l l16) (.l l17) (.l l18) (.l l19) (.l (rS ((List.range i).map sh0))) (.l l21) (.l l22) (.l l23) k0 =
      k0 (.i 0) (.i 0) x4 x5 x6 x7 x8 x9 x10 x11 (.l l12) (.l l13) (.l l14) (.l l15) (.l l16) (.l l17) (.l l18) (.l l19) (.l (rS ((List.range N).map sh0))) (.l l21) (.l l22) (.l l23)
  | 0, i, e, n, hn, k0 => by
    obtain ⟨n, rfl⟩ : ∃ m', n = m' + 1 := ⟨n - 1, by omega⟩
    simp only [spec_WorldNew_L0_0, T.int_i, T.rows_l]
    rw [dec_f (by omega)]
    have : i = N := by omega
    subst this
    rfl
  | j + 1, i, e, n, hn, k0 => by
    obtain ⟨n, rfl⟩ : ∃ m', n = m' + 1 := ⟨n - 1, by omega⟩
    have ih := new_loop m hm N hN x4 x5 x6 x7 x8 x9 x10 x11 l12 l13 l14 l15 l16 l17 l18 l19 l21 l22 l23 j (i + 1) (by omega) n (by omega) k0
    obtain ⟨m, rfl⟩ : ∃ m', m = m' + 1 := ⟨m - 1, by omega⟩
    have ew : IntKind.i64.wrap ((i : Int) + 1) = ((i + 1 : Nat) : Int) := by rw [wrap_i64 (by omega) (by omega)]; omega
    simp only [spec_WorldNew_L0_0, T.int_i, T.rows_l, spec_ShardNew, ew]
    rw [dec_t (by omega), l1In_ok (by omega)]
    simp only [T.bool_b]
    rw [decide_eq_true (by omega)]
    simp only [Bool.not_true, cond_false, T.rows_l]
    rw [dec_t (by rw [rS_len]; simp [maxRow]; omega)]
    have e2 : rS ((List.range i).map sh0) ++ [[T.i (i : Int), T.l [], T.i 0, T.l [], T.l []]] = rS ((List.range (i + 1)).map sh0) := by
      rw [List.range_succ]; simp [sh0, DShard.r]
    rw [e2]
    exact ih
theorem worldNew_ok {m : Nat} (hm : 20 ≤ m) {n : Int} (hn : 1 ≤ n ∧ n ≤ 8) (K : KW) : spec_WorldNew m (.i n) K = kW K (newW n) := by
  obtain ⟨m, rfl⟩ : ∃ m', m = m' + 1 := ⟨m - 1, by omega⟩
  obtain ⟨N, rfl⟩ : ∃ N : Nat, n = (N : Int) := ⟨n.toNat, by omega⟩
  have h0 : ∃ m', m = m' + 1 := ⟨m - 1, by omega⟩
  simp only [spec_WorldNew]
  rw [l1In_ok (by omega), decide_eq_true hn]
  simp only [T.bool_b, Bool.not_true, cond_false]
  have hc : ∀ K, spec_CoordNew m (.i (N : Int)) K = K (.i (N : Int)) (.i 1) (.i 0) (.l []) (.l []) (.i 0) := by
    intro K
    obtain ⟨m, rfl⟩ := h0
    simp only [spec_CoordNew]
    rw [l1In_ok (by omega), decide_eq_true hn]
    simp only [T.bool_b, Bool.not_true, cond_false]
  rw [hc]
  simp only [T.rows_l]
  exact (new_loop m (by omega) N (by omega) _ _ _ _ _ _ _ _ _ _ _ _ _ _ _ _ _ _ _ N 0 (by omega) m (by omega) _).trans rfl
/-! drawn worlds -/
theorem drawW_loop (m : Nat) (hm : 3200100 ≤ m) {b : List (List T)} (x7 x8 x9 x10 : T) (l15 l16 l17 l18 l19 l20 : List (List T)) : ∀ (j : Nat) (i : Int) (x : T) (w : DWorld), At b i → WInv w → j ≤ 1000 → ∀ n, j < n →
    ∃ (w' : DWorld) (i' : Int) (x' : T), WInv w' ∧ w'.c.n = w.c.n ∧ At b i' ∧ ∀ k0, spec_l12Draw_L0_0 m n (.i 0) (.i 0) (.i 0) (.i (j : Int)) (.l b) (.i i) x x7 x8 x9 x10 (.i w.c.n) (.i w.c.life) (.i w.c.next) (.i w.c.sure) (.l l15) (.l l16) (.l l17) (.l l18) (.l l19) (.l l20) (.l (rJ w.c.jobs)) (.l (rC w.c.log)) (.l (rS w.shards)) (.l (rW w.net)) (.l (rW w.outs)) (.l (rB w.begun)) k0 =
      k0 (.i 0) (.i 0) (.i 0) (.l b) (.i i') x' x7 x8 x9 x10 (.i w'.c.n) (.i w'.c.life) (.i w'.c.next) (.i w'.c.sure) (.l l15) (.l l16) (.l l17) (.l l18) (.l l19) (.l l20) (.l (rJ w'.c.jobs)) (.l (rC w'.c.log)) (.l (rS w'.shards)) (.l (rW w'.net)) (.l (rW w'.outs)) (.l (rB w'.begun))
  | 0, i, x, w, hi, h, hj, n, hn => by
    obtain ⟨n, rfl⟩ : ∃ m', n = m' + 1 := ⟨n - 1, by omega⟩
    refine ⟨w, i, x, h, rfl, hi, fun k0 => ?_⟩
    simp only [spec_l12Draw_L0_0, T.int_i, T.rows_l]
    rw [dec_f (by omega)]
    rfl
  | j + 1, i, x, w, hi, h, hj, n, hn => by
    obtain ⟨n, rfl⟩ : ∃ m', n = m' + 1 := ⟨n - 1, by omega⟩
    have hB := BWorld.of h
    have hn8 := h.n
    have hsl := h.shl
    have hnl := h.netl
    obtain ⟨e, i1, x1, eo, h1, hk1⟩ := event_ok (m := m) (by omega) hi x w (by omega) (by omega)
    have hw1 := h.do_ e eo.ops
    have hn1 : (doP w e).2.c.n = w.c.n := doP_n w e
    obtain ⟨w', i', x', g1, g2, g3, g4⟩ := drawW_loop m hm x7 x8 x9 x10 l15 l16 l17 l18 l19 l20 j i1 x1 (doP w e).2 h1 hw1 (by omega) n (by omega)
    refine ⟨w', i', x', g1, g2.trans hn1, g3, fun k0 => ?_⟩
    have f4 : IntKind.i64.wrap (((j + 1 : Nat) : Int) - 1) = (j : Int) := by rw [wrap_i64 (by omega) (by omega)]; omega
    simp only [spec_l12Draw_L0_0, T.int_i, T.rows_l, f4]
    rw [dec_t (by omega), jnE, hk1]
    simp only [T.rows_l]
    refine (do_ok (by omega) w hB h.range e ⟨by have := eo.opl; omega, fun o ho => (eo.ops o ho).b⟩ (by have := eo.n; omega) (fun _ a b' c d e f g h i j' => spec_l12Draw_L0_0 m n (T.i (((0 : Int).toNat : Nat) : Int)) (T.i (((0 : Int).toNat : Nat) : Int)) (T.i (((0 : Int).toNat : Nat) : Int)) (T.i (j : Int)) (T.l b) (.i i1) x1 x7 x8 x9 x10 a b' c f (T.l l15) (T.l l16) (T.l l17) (T.l l18) (T.l l19) (T.l l20) (T.l d.rows) (T.l e.rows) (T.l g.rows) (T.l h.rows) (T.l i.rows) (T.l j'.rows) k0)).trans ?_
    exact g4 k0
theorem drawWorld_ok {m : Nat} (hm : 3200200 ≤ m) (b : List (List T)) (hb : b.length ≤ 1048576) : ∃ w : DWorld, WInv w ∧ ∀ K, spec_DrawWorld m (.l b) K = kW K w := by
  obtain ⟨m, rfl⟩ : ∃ m', m = m' + 1 := ⟨m - 1, by omega⟩
  obtain ⟨x, hx⟩ := l1New_ok (m := m) (b := b) hb (by omega)
  obtain ⟨sz, s1, s2, hs⟩ := l1Size_ok' (m := m) (by omega) b hb 90 (by omega)
  have ew : IntKind.i64.wrap (20 + sz) = 20 + sz := wrap_i64 (by omega) (by omega)
  obtain ⟨m', hm'⟩ : ∃ m', m = m' + 1 := ⟨m - 1, by omega⟩
  have hAt : At b 0 := ⟨by omega, by omega, hb⟩
  obtain ⟨N, i1, x1, hN, h1, hk1⟩ := l1Int_ok (m := m') (by omega) hAt x [3, 2, 3, 1] (by decide) (by decide)
  have hN2 : 1 ≤ N ∧ N ≤ 8 := by simp at hN; omega
  obtain ⟨q, i2, x2, q1, q2, h2, hk2⟩ := l1Below_ok (m := m') (by omega) h1 x1 (n := 20 + sz) (by omega) (by omega)
  obtain ⟨w', i', x', g1, g2, g3, g4⟩ := drawW_loop m' (by omega) (.i 0) (.i 0) (.i 0) (.i 0) [] [] [] [] [] [] q.toNat i2 x2 (newW N) h2 (winv_new hN2) (by omega) m' (by omega)
  refine ⟨w', g1, fun K => ?_⟩
  simp only [spec_DrawWorld, T.rows_l]
  rw [hx]
  simp only [T.rows_l]
  rw [hs]
  simp only [T.int_i, ew]
  subst hm'
  simp only [spec_l12Draw, T.rows_l]
  simp only [List.map_cons, List.map_nil] at hk1
  rw [hk1, worldNew_ok (by omega) hN2]
  unfold kW
  simp only [T.rows_l]
  rw [hk2]
  have er : q = ((q.toNat : Nat) : Int) := by omega
  simp only [T.rows_l]
  rw [er]
  exact (g4 _).trans rfl
end Go.Proofs.Ytjjonejgbdbnjaa

namespace Go.Proofs.Ytjjonejgbdbnjaa
open Go Go.E Go.Proofs
/-! tables, typed -/
theorem fstK_t (k v : ByteArray) : ∀ l : List DPair, (match fstK (.s k) (rP l) with
    | none => setK k v l = none ∧ getKV k l = (emp, false)
    | some j => j < l.length ∧ setK k v l = some (l.set j ⟨(l.getD j default).key, v⟩) ∧ getKV k l = ((l.getD j default).val, true))
  | [] => ⟨rfl, rfl⟩
  | p :: l => by
    have ih := fstK_t k v l
    show (match (if keyE (.s k) p.r then some 0 else (fstK (.s k) (rP l)).map (· + 1)) with | none => _ | some j => _)
    unfold setK getKV
    have e : keyE (.s k) p.r = keq p.key k := rfl
    rw [e]
    cases keq p.key k with
    | true => exact ⟨by simp, rfl, rfl⟩
    | false =>
      simp only [Bool.false_eq_true, if_false]
      cases hf : fstK (.s k) (rP l) with
      | none => rw [hf] at ih; exact ⟨by rw [ih.1]; rfl, ih.2⟩
      | some j =>
        rw [hf] at ih
        refine ⟨by simp; exact ih.1, by rw [ih.2.1]; rfl, ih.2.2⟩
theorem cntLe_t (k : ByteArray) : ∀ l : List DPair, cntLe (.s k) (rP l) = cntK k l
  | [] => rfl
  | p :: l => by
    show (if keyLe (.s k) p.r then cntLe (.s k) (rP l) + 1 else 0) = _
    unfold cntK
    rw [cntLe_t k l]
    rfl
theorem putP_t (l : List DPair) (k v : ByteArray) : putP (rP l) (.s k) (.s v) = rP (putK l k v) := by
  have h := fstK_t k v l
  unfold putP putK
  cases hf : fstK (.s k) (rP l) with
  | none =>
    rw [hf] at h
    rw [h.1, cntLe_t]
    simp [rP, List.map_take, List.map_drop, DPair.r]
  | some j =>
    rw [hf] at h
    rw [h.2.1]
    have hj := h.1
    have e : (rP l).getD j [] = (l.getD j default).r := by simp [rP, List.getD, hj]
    simp only [e]
    simp [rP, List.map_set, DPair.r]
def unionP (a b : List DPair) : List DPair := b.foldl (fun m p => putK m p.key p.val) a
theorem foldP_t : ∀ (b a : List DPair), foldP (rP a) (rP b) = rP (unionP a b)
  | [], a => rfl
  | p :: b, a => by
    show foldP (putP (rP a) (.s p.key) (.s p.val)) (rP b) = _
    rw [putP_t, foldP_t b]; rfl
def tablesP (ss : List DShard) : List DPair := ss.foldl (fun m s => unionP m s.map) []
theorem foldT_t : ∀ (ss : List DShard) (a : List DPair), foldT (rP a) (rS ss) = rP (ss.foldl (fun m s => unionP m s.map) a)
  | [], a => rfl
  | s :: ss, a => by
    show foldT (foldP (rP a) (rP s.map)) (rS ss) = _
    rw [foldP_t, foldT_t ss]; rfl
/-! one pair of a table -/
theorem pairAt_ok {m : Nat} (hm : 1048590 ≤ m) (l : List DPair) (k : ByteArray) (hl : l.length ≤ 1048576) (K : T → An) :
    impl_pairAt m (.l (rP l)) (.s k) K = K (.i (match fstK (.s k) (rP l) with | some j => (j : Int) | none => -1)) := by
  obtain ⟨m, rfl⟩ : ∃ m', m = m' + 1 := ⟨m - 1, by omega⟩
  obtain ⟨m, rfl⟩ : ∃ m', m = m' + 1 := ⟨m - 1, by omega⟩
  simp only [impl_pairAt, slices_IndexFunc___impl_Pair_impl_Pair_, T.rows_l]
  refine (index_loop m (by omega) (.s k) (rP l) (rP l) [] rfl (by rw [rP_len]; omega) m (by rw [rP_len]; omega) _ _).trans ?_
  cases fstK (.s k) (rP l) with
  | none => rfl
  | some j => simp
theorem implGet_ok {m : Nat} (hm : 1048600 ≤ m) (l : List DPair) (k : ByteArray) (hl : l.length ≤ 1048576) (K : T → T → An) : impl_GetKey m (.l (rP l)) (.s k) K = K (.s (getKV k l).1) (.b (getKV k l).2) := by
  obtain ⟨m, rfl⟩ : ∃ m', m = m' + 1 := ⟨m - 1, by omega⟩
  simp only [impl_GetKey, T.rows_l]
  rw [pairAt_ok (by omega) l k hl]
  have h := fstK_t k k l
  cases hf : fstK (.s k) (rP l) with
  | none =>
    rw [hf] at h
    simp only [T.int_i]
    rw [dec_t (by omega), h.2]
    rfl
  | some j =>
    rw [hf] at h
    have hj := h.1
    simp only [T.int_i]
    have e : (rP l).getD (Int.toNat (j : Int)) [] = (l.getD j default).r := by simp [rP, List.getD, hj]
    rw [dec_f (by omega), dec_t (by rw [rP_len]; omega), e, pd1, h.2.2]
theorem readAt_ok {m : Nat} (hm : 1048700 ≤ m) (x0 x1 x2 x5 : T) (x3 x4 x7 x8 x9 : List (List T)) (ss : List DShard) (hs : 1 ≤ ss.length ∧ ss.length ≤ 8) (hb : ∀ s ∈ ss, s.map.length ≤ 1048576) (key : ByteArray) (hk : key.size ≤ 1048576) (K : T → T → An) :
    impl_ReadAt m x0 x1 x2 (.l x3) (.l x4) x5 (.l (rS ss)) (.l x7) (.l x8) (.l x9) (.s key) K = K (.s (getKV key (ss.getD (shardP key ss.length) default).map).1) (.b (getKV key (ss.getD (shardP key ss.length) default).map).2) := by
  obtain ⟨m, rfl⟩ : ∃ m', m = m' + 1 := ⟨m - 1, by omega⟩
  have hlt : shardP key (ss.length : Int) < ss.length := by
    unfold shardP
    rw [if_neg (by omega)]
    exact Nat.mod_lt _ (by omega)
  simp only [impl_ReadAt, T.rows_l]
  rw [cond_f (by rw [rS_len]; exact beq_eq_false_iff_ne.2 (by omega)), rS_len, implShard_ok key _ hk (by omega)]
  simp only [T.int_i]
  have e : (rS ss).getD (Int.toNat ((shardP key (ss.length : Int) : Nat) : Int)) [] = (ss.getD (shardP key ss.length) default).r := by simp [rS, List.getD, hlt]
  have hm2 : ss.getD (shardP key ss.length) default ∈ ss := by simp [List.getD, hlt]
  rw [dec_t (by omega), e, show ((ss.getD (shardP key ss.length) default).r.drop 3).getD 0 dflt = .l (rP (ss.getD (shardP key ss.length) default).map) from rfl]
  simp only [T.rows_l]
  rw [implGet_ok (by omega) _ key (hb _ hm2)]
/-! keys of tables -/
theorem keq_eq {a b : ByteArray} (h : keq a b = true) : a = b := by
  have h1 : a.toList = b.toList := by simpa [keq] using h
  rw [ByteArray.toList_eq, ByteArray.toList_eq] at h1
  cases a; cases b
  simp only at h1
  congr 1
  exact Array.toList_inj.1 h1
theorem keq_refl (a : ByteArray) : keq a a = true := by simp [keq]
def KN (l : List DPair) : Prop := l.Pairwise fun a b => a.key ≠ b.key
theorem setK_keys {k v : ByteArray} : ∀ {l l' : List DPair}, setK k v l = some l' → l'.map DPair.key = l.map DPair.key ∧ ∀ p ∈ l', p ∈ l ∨ (p.key = k ∧ p.val = v)
  | [], l', h => by cases h
  | q :: l, l', h => by
    unfold setK at h
    split at h
    · rename_i hk
      cases h
      refine ⟨rfl, fun p hp => ?_⟩
      rcases List.mem_cons.1 hp with rfl | hp
      · exact .inr ⟨keq_eq hk, rfl⟩
      · exact .inl (by simp [hp])
    · cases h2 : setK k v l with
      | none => rw [h2] at h; cases h
      | some l2 =>
        rw [h2] at h; cases h
        obtain ⟨a, b⟩ := setK_keys h2
        refine ⟨by simp [a], fun p hp => ?_⟩
        rcases List.mem_cons.1 hp with rfl | hp
        · exact .inl (by simp)
        · rcases b p hp with b | b
          · exact .inl (by simp [b])
          · exact .inr b
theorem setK_none {k v : ByteArray} : ∀ {l : List DPair}, setK k v l = none → ∀ p ∈ l, p.key ≠ k
  | [], _, p, hp => by cases hp
  | q :: l, h, p, hp => by
    unfold setK at h
    split at h
    · cases h
    · rename_i hk
      rcases List.mem_cons.1 hp with rfl | hp
      · intro e; exact hk (by rw [e]; exact keq_refl k)
      · cases h2 : setK k v l with
        | some l2 => rw [h2] at h; cases h
        | none => exact setK_none h2 p hp
theorem KN_iff (l : List DPair) : KN l ↔ (l.map DPair.key).Pairwise (· ≠ ·) := by unfold KN; rw [List.pairwise_map]
theorem putK_mem {l : List DPair} {k v : ByteArray} {p : DPair} (h : p ∈ putK l k v) : p ∈ l ∨ (p.key = k ∧ p.val = v) := by
  unfold putK at h
  cases hs : setK k v l with
  | some l' => rw [hs] at h; exact (setK_keys hs).2 p h
  | none =>
    rw [hs] at h
    simp only [List.append_assoc, List.mem_append, List.mem_singleton] at h
    rcases h with h | rfl | h
    · exact .inl (List.mem_of_mem_take h)
    · exact .inr ⟨rfl, rfl⟩
    · exact .inl (List.mem_of_mem_drop h)
theorem putK_kn {l : List DPair} (h : KN l) (k v : ByteArray) : KN (putK l k v) := by
  unfold putK
  cases hs : setK k v l with
  | some l' => rw [KN_iff, (setK_keys hs).1, ← KN_iff]; exact h
  | none =>
    have hn := setK_none hs
    simp only
    rw [← List.take_append_drop (cntK k l) l] at h
    unfold KN at h ⊢
    rw [List.pairwise_append] at h
    rw [List.append_assoc, List.pairwise_append, List.singleton_append, List.pairwise_cons]
    refine ⟨h.1, ⟨fun p hp => fun e => hn p (List.mem_of_mem_drop hp) e.symm, h.2.1⟩, fun a ha b hb => ?_⟩
    rcases List.mem_cons.1 hb with rfl | hb
    · exact hn a (List.mem_of_mem_take ha)
    · exact h.2.2 a ha b hb
structure MI (P : ByteArray → Prop) (s : St) : Prop where
  kn : KN s.map
  map : ∀ p ∈ s.map, P p.key
  held : ∀ r ∈ s.held, ∀ o ∈ r.ops, P o.key
theorem apply_mi {P : ByteArray → Prop} : ∀ (l : List DOp) (m : List DPair), KN m → (∀ p ∈ m, P p.key) → (∀ o ∈ l, P o.key) → KN (applyP m l) ∧ ∀ p ∈ applyP m l, P p.key
  | [], m, h1, h2, h3 => ⟨h1, h2⟩
  | o :: l, m, h1, h2, h3 => by
    show KN (applyP (app1 m o) l) ∧ _
    refine apply_mi l (app1 m o) ?_ ?_ fun q hq => h3 q (by simp [hq])
    · unfold app1
      split
      · exact putK_kn h1 _ _
      · split
        · exact List.Pairwise.filter _ h1
        · exact h1
    · intro p hp
      unfold app1 at hp
      split at hp
      · rcases putK_mem hp with hp | ⟨e, -⟩
        · exact h2 p hp
        · rw [e]; exact h3 o (by simp)
      · split at hp
        · exact h2 p (List.mem_filter.1 hp).1
        · exact h2 p hp
theorem step_mi {P : ByteArray → Prop} {s s' : St} {r : DRec} (h : MI P s) (hr : ∀ o ∈ r.ops, P o.key) (hs : Step s r s') : MI P s' := by
  cases hs with
  | hold hk h1 h2 h3 e =>
    subst e
    refine ⟨h.kn, h.map, fun q hq => ?_⟩
    rcases List.mem_append.1 hq with hq | hq
    · exact h.held q hq
    · rw [List.mem_singleton.1 hq]; exact hr
  | gone hk h0 h1 e => subst e; exact ⟨h.kn, h.map, h.held⟩
  | done j hk h0 h1 e =>
    obtain ⟨pre, x, post, e1, -, e3, e4, e5⟩ := getD_of s.held (fstR_lt h0)
    have ha := apply_mi x.ops s.map h.kn h.map (h.held x (by rw [e1]; simp))
    rw [e, e3]
    refine ⟨?_, ?_, fun q hq => h.held q (mem_cut hq)⟩
    · show KN (if r.kind = 2 then applyP s.map x.ops else s.map)
      split
      · exact ha.1
      · exact h.kn
    · show ∀ p ∈ (if r.kind = 2 then applyP s.map x.ops else s.map), P p.key
      split
      · exact ha.2
      · exact h.map
theorem mi_go {P : ByteArray → Prop} : ∀ (l : List DRec) (s s' : St), MI P s → (∀ r ∈ l, ∀ o ∈ r.ops, P o.key) → replayGo s l = some s' → MI P s'
  | [], s, s', h, hr, e => by cases e; exact h
  | r :: l, s, s', h, hr, e => by
    simp only [replayGo] at e
    cases hb : (oneP s r).1 with
    | false => rw [hb] at e; cases e
    | true =>
      rw [hb] at e
      exact mi_go l _ s' (step_mi h (hr r (by simp)) (one_step' hb).2) (fun q hq => hr q (by simp [hq])) e
/-- keys of a shard's table are its own -/
theorem sh_keys {w : DWorld} (h : WInv w) {k : Nat} {sh : DShard} (hk : w.shards[k]? = some sh) : KN sh.map ∧ ∀ p ∈ sh.map, shardP p.key w.c.n = k ∧ p.key.size ≤ 5 := by
  obtain ⟨h1, h2, h3⟩ := h.sh k sh hk
  obtain ⟨seen, e, hi, -⟩ := h2.inv
  have := mi_go (P := fun key => shardP key w.c.n = k ∧ key.size ≤ 5) sh.log st0 _ ⟨by simp [st0, KN], by simp [st0], by simp [st0]⟩ (fun r hr o ho => ?_) e
  · exact ⟨this.kn, this.map⟩
  · refine ⟨?_, (h2.ops r hr o ho).1⟩
    rcases (recOk_kind (hi.ok r hr)).2 with ⟨k1, -⟩ | ⟨-, e0⟩
    · obtain ⟨⟨q, hq, -, e1⟩, -⟩ := h3 r hr
      rw [e1 k1] at ho
      have := (List.mem_filter.1 ho).2
      have : ((shardP o.key w.c.n : Nat) : Int) = (k : Int) := by simpa using this
      omega
    · rw [e0] at ho; cases ho
theorem getKV_mem {l : List DPair} (h : KN l) {p : DPair} (hp : p ∈ l) : getKV p.key l = (p.val, true) := by
  induction l with
  | nil => cases hp
  | cons q l ih =>
    unfold KN at h
    rw [List.pairwise_cons] at h
    unfold getKV
    rcases List.mem_cons.1 hp with e | hp
    · subst e; rw [if_pos (keq_refl _)]
    · rw [if_neg (fun hk => h.1 p hp (keq_eq hk))]
      exact ih h.2 hp
theorem getKV_out {l : List DPair} {k : ByteArray} (h : ∀ p ∈ l, p.key ≠ k) : getKV k l = (emp, false) := by
  induction l with
  | nil => rfl
  | cons q l ih =>
    unfold getKV
    rw [if_neg (fun hk => h q (by simp) (keq_eq hk))]
    exact ih fun p hp => h p (by simp [hp])
theorem union_mem {p : DPair} : ∀ {b a : List DPair}, p ∈ unionP a b → p ∈ a ∨ p ∈ b
  | [], a, h => .inl h
  | q :: b, a, h => by
    rcases union_mem (b := b) (a := putK a q.key q.val) h with h | h
    · rcases putK_mem h with h | ⟨e1, e2⟩
      · exact .inl h
      · refine .inr ?_
        have : p = q := by cases p; cases q; simp only at e1 e2; rw [e1, e2]
        rw [this]; simp
    · exact .inr (by simp [h])
theorem tables_mem' {p : DPair} : ∀ {ss : List DShard} {a : List DPair}, p ∈ ss.foldl (fun m s => unionP m s.map) a → p ∈ a ∨ ∃ s ∈ ss, p ∈ s.map
  | [], a, h => .inl h
  | s :: ss, a, h => by
    rcases tables_mem' (ss := ss) (a := unionP a s.map) h with h | ⟨t, ht, h⟩
    · rcases union_mem h with h | h
      · exact .inl h
      · exact .inr ⟨s, by simp, h⟩
    · exact .inr ⟨t, by simp [ht], h⟩
theorem tables_mem {p : DPair} {ss : List DShard} (h : p ∈ tablesP ss) : ∃ s ∈ ss, p ∈ s.map := by
  rcases tables_mem' h with h | h
  · cases h
  · exact h
/-- what is read at a key's shard -/
theorem read_in {w : DWorld} (h : WInv w) {p : DPair} (hp : p ∈ tablesP w.shards) : getKV p.key (w.shards.getD (shardP p.key w.shards.length) default).map = (p.val, true) ∧ p.key.size ≤ 5 := by
  obtain ⟨s, hs, hp⟩ := tables_mem hp
  obtain ⟨k, hk⟩ := List.mem_iff_getElem?.1 hs
  obtain ⟨a, b⟩ := sh_keys h hk
  obtain ⟨c, d⟩ := b p hp
  have e : w.shards.getD (shardP p.key w.shards.length) default = s := by
    rw [h.shl, c, List.getD_eq_getElem?_getD, hk]; rfl
  rw [e]
  exact ⟨getKV_mem a hp, d⟩
theorem read_out {w : DWorld} (h : WInv w) {k : ByteArray} (hk : 5 < k.size) : getKV k (w.shards.getD (shardP k w.shards.length) default).map = (emp, false) := by
  refine getKV_out fun p hp e => ?_
  rw [List.getD_eq_getElem?_getD] at hp
  cases hg : w.shards[shardP k w.shards.length]? with
  | none => rw [hg] at hp; cases hp
  | some sh =>
    rw [hg] at hp
    have := ((sh_keys h hg).2 p hp).2
    rw [e] at this
    omega
/-! the law -/
theorem mapsLen_t : ∀ ss : List DShard, (∀ s ∈ ss, s.map.length ≤ 60) → mapsLen (rS ss) ≤ 60 * ss.length
  | [], _ => by simp [mapsLen]
  | s :: ss, h => by
    have h1 := h s (by simp)
    have h2 := mapsLen_t ss fun t ht => h t (by simp [ht])
    show (rP s.map).length + mapsLen (rS ss) ≤ _
    rw [rP_len, List.length_cons]
    omega
theorem unionP_len : ∀ (b a : List DPair), (unionP a b).length ≤ a.length + b.length
  | [], a => by simp [unionP]
  | p :: b, a => by
    have h1 := putK_len a p.key p.val
    have h2 := unionP_len b (putK a p.key p.val)
    show (unionP (putK a p.key p.val) b).length ≤ _
    simp; omega
theorem tables_len : ∀ (ss : List DShard) (a : List DPair), (∀ s ∈ ss, s.map.length ≤ 60) → (ss.foldl (fun m s => unionP m s.map) a).length ≤ a.length + 60 * ss.length
  | [], a, _ => by simp
  | s :: ss, a, h => by
    have h1 := h s (by simp)
    have h2 := unionP_len s.map a
    have h3 := tables_len ss (unionP a s.map) fun t ht => h t (by simp [ht])
    show (ss.foldl (fun m s => unionP m s.map) (unionP a s.map)).length ≤ _
    simp; omega
theorem same_loop (m : Nat) : ∀ (post pre : List DPair), pre.length + post.length ≤ 1048576 → ∀ n, post.length < n → ∀ k0 k1,
    laws_samePairs_L0_0 m n (.l (rP (pre ++ post))) (.l (rP (pre ++ post))) (.i pre.length) k0 k1 = k1
  | [], pre, hs, n, hn, k0, k1 => by
    obtain ⟨n, rfl⟩ : ∃ m', n = m' + 1 := ⟨n - 1, by omega⟩
    simp only [laws_samePairs_L0_0, T.int_i, T.rows_l]
    rw [dec_f (by simp)]
  | x :: post, pre, hs, n, hn, k0, k1 => by
    obtain ⟨n, rfl⟩ : ∃ m', n = m' + 1 := ⟨n - 1, by omega⟩
    simp only [List.length_cons] at hs hn
    have ih := same_loop m post (pre ++ [x]) (by simp; omega) n (by omega) k0 k1
    rw [len_snoc, List.append_assoc, List.singleton_append] at ih
    simp only [laws_samePairs_L0_0, T.int_i, T.rows_l, ixP, ix_nx pre (by omega), p0, p1, T.str_s]
    rw [dec_t (by simp <;> omega), dec_t (by simp <;> omega), dec_t (by simp <;> omega)]
    simp only [beq_self_eq_true, Bool.and_self, Bool.not_true, cond_false]
    exact ih
theorem same_ok {m : Nat} (hm : 1048590 ≤ m) (l : List DPair) (hl : l.length ≤ 1048576) (K : T → An) : laws_samePairs m (.l (rP l)) (.l (rP l)) K = K (.b true) := by
  obtain ⟨m, rfl⟩ : ∃ m', m = m' + 1 := ⟨m - 1, by omega⟩
  simp only [laws_samePairs, T.rows_l]
  rw [cond_f (by simp)]
  exact same_loop m l [] (by simpa using hl) m (by omega) _ _
theorem tabOf_loop (m : Nat) (hm : 1 ≤ m) (ss : List DShard) (hb : ∀ s ∈ ss, s.map.length ≤ 1048576) : ∀ (post pre : List DShard) (acc : List (List T)), ss = pre ++ post → ss.length ≤ 1048576 → acc.length = pre.length → ∀ n, post.length < n → ∀ k0,
    ∃ r : List (List T), r.length = ss.length ∧ impl_TablesOf_L0_0 m n (.l (rS ss)) (.i ss.length) (.i pre.length) (.l acc) k0 = k0 (.l r)
  | [], pre, acc, he, hs, ha, n, hn, k0 => by
    obtain ⟨n, rfl⟩ : ∃ m', n = m' + 1 := ⟨n - 1, by omega⟩
    refine ⟨acc, by rw [ha, he]; simp, ?_⟩
    simp only [impl_TablesOf_L0_0, T.int_i, T.rows_l]
    rw [dec_f (by rw [he]; simp)]
  | x :: post, pre, acc, he, hs, ha, n, hn, k0 => by
    obtain ⟨n, rfl⟩ : ∃ m', n = m' + 1 := ⟨n - 1, by omega⟩
    simp only [List.length_cons] at hn
    have hs2 : pre.length + (post.length + 1) ≤ 1048576 := by rw [he] at hs; simpa using hs
    have hx := hb x (by rw [he]; simp)
    obtain ⟨r, hr, e⟩ := tabOf_loop m hm ss hb post (pre ++ [x]) (acc ++ [[T.l (rP x.map)]]) (by rw [he]; simp) hs (by simp [ha]) n (by omega) k0
    rw [len_snoc] at e
    refine ⟨r, hr, ?_⟩
    obtain ⟨m, rfl⟩ : ∃ m', m = m' + 1 := ⟨m - 1, by omega⟩
    have g : (rS ss).getD (Int.toNat (pre.length : Int)) [] = x.r := by rw [he]; exact ixS pre x post
    simp only [impl_TablesOf_L0_0, T.int_i, T.rows_l, g, ix_nx pre (by omega), show x.r.getD 3 dflt = .l (rP x.map) from rfl, slices_Clone___impl_Pair_impl_Pair_]
    rw [dec_t (by rw [he]; simp <;> omega), dec_t (by rw [he]; simp <;> omega), dec_t (by rw [rP_len]; unfold maxRow; omega)]
    rw [dec_t (by rw [ha]; unfold maxRow; omega)]
    exact e
theorem law_loop (m : Nat) (hm : 1048800 ≤ m) {w : DWorld} (h : WInv w) : ∀ (post pre : List DPair), tablesP w.shards = pre ++ post → pre.length + post.length ≤ 1048576 → ∀ n, post.length < n → ∀ k0 k1,
    laws_FnReads_L0_0 m n (.i 0) (.i pre.length) (.i w.c.n) (.i w.c.life) (.i w.c.next) (.i w.c.sure) (.l (rP (tablesP w.shards))) (.l (rJ w.c.jobs)) (.l (rC w.c.log)) (.l (rS w.shards)) (.l (rW w.net)) (.l (rW w.outs)) (.l (rB w.begun)) k0 k1 =
      k1 (.i 0) (.i w.c.n) (.i w.c.life) (.i w.c.next) (.i w.c.sure) (.l (rP (tablesP w.shards))) (.l (rJ w.c.jobs)) (.l (rC w.c.log)) (.l (rS w.shards)) (.l (rW w.net)) (.l (rW w.outs)) (.l (rB w.begun))
  | [], pre, he, hs, n, hn, k0, k1 => by
    obtain ⟨n, rfl⟩ : ∃ m', n = m' + 1 := ⟨n - 1, by omega⟩
    simp only [laws_FnReads_L0_0, T.int_i, T.rows_l]
    rw [dec_f (by rw [he]; simp)]
    rfl
  | x :: post, pre, he, hs, n, hn, k0, k1 => by
    obtain ⟨n, rfl⟩ : ∃ m', n = m' + 1 := ⟨n - 1, by omega⟩
    simp only [List.length_cons] at hs hn
    have ih := law_loop m hm h post (pre ++ [x]) (by rw [he]; simp) (by simp; omega) n (by omega) k0 k1
    rw [len_snoc] at ih
    have g : (rP (tablesP w.shards)).getD (Int.toNat (pre.length : Int)) [] = x.r := by rw [he]; exact ixP pre x post
    have hB := BWorld.of h
    have hn8 := h.n
    have hsl := h.shl
    obtain ⟨q1, q2⟩ := read_in h (p := x) (by rw [he]; simp)
    have hB1 : decide ((0 : Int) ≤ (pre.length : Int) ∧ (pre.length : Int) < ((rP (tablesP w.shards)).length : Int)) = true := decide_eq_true (by rw [he]; simp; omega)
    have hB2 : decide (Int.toNat (pre.length : Int) < (rP (tablesP w.shards)).length) = true := decide_eq_true (by rw [he]; simp)
    simp only [laws_FnReads_L0_0, jn, T.int_i, T.rows_l, g, ix_nx pre (by omega), p0, p1, hB1, hB2, cond_true]
    rw [dec_t (by rw [he]; simp; omega), readAt_ok (by omega) _ _ _ _ _ _ _ _ _ w.shards (by omega) (fun s hs => by have := (hB.sh s hs).map; omega) x.key (by omega), q1]
    simp only [T.bool_b, T.str_s, Bool.not_true, beq_self_eq_true, cond_true, cond_false]
    exact ih
theorem fnReads_ok {m : Nat} (hm : 30000000 ≤ m) (b : List (List T)) (K : T → An) : laws_FnReads m (.l b) K = K (.b true) := by
  obtain ⟨m, rfl⟩ : ∃ m', m = m' + 1 := ⟨m - 1, by omega⟩
  obtain ⟨m', hm'⟩ : ∃ m', m = m' + 1 := ⟨m - 1, by omega⟩
  have hbig : ∀ K, laws_big m (.l b) K = K (.b (decide ((b.length : Int) > 1048576))) := by
    intro K; rw [hm']; simp only [laws_big, T.rows_l]
  simp only [laws_FnReads, T.rows_l]
  rw [hbig]
  simp only [T.bool_b]
  by_cases hg : (b.length : Int) > 1048576
  · rw [dec_t hg]
  rw [dec_f hg]
  obtain ⟨w, h, hw⟩ := drawWorld_ok (m := m) (by omega) b (by omega)
  have hB := BWorld.of h
  have hn8 := h.n
  have hsl := h.shl
  have hmap : ∀ s ∈ w.shards, s.map.length ≤ 60 := fun s hs => by
    obtain ⟨k, hk⟩ := List.mem_iff_getElem?.1 hs
    obtain ⟨seen, e, hi, h1, h2⟩ := (h.sh k s hk).2.1.inv
    omega
  have hml := mapsLen_t w.shards hmap
  have htl := tables_len w.shards [] hmap
  have hT : foldT [] (rS w.shards) = rP (tablesP w.shards) := foldT_t w.shards []
  rw [hw]
  unfold kW
  simp only [T.rows_l]
  rw [implT_ok (by omega) _ _ _ _ _ _ _ _ _ (rS w.shards) (by omega) (by rw [rS_len]; omega), hT]
  simp only [T.rows_l]
  refine (law_loop m (by omega) h (tablesP w.shards) [] rfl (by show 0 + (w.shards.foldl (fun m s => unionP m s.map) []).length ≤ _; simp at htl; omega) m (by show (w.shards.foldl (fun m s => unionP m s.map) []).length < _; simp at htl; omega) _ _).trans ?_
  simp only [T.rows_l]
  have hnb : (⟨#[110, 111, 98, 111, 100, 121]⟩ : ByteArray).size = 6 := rfl
  rw [readAt_ok (by omega) _ _ _ _ _ _ _ _ _ w.shards (by omega) (fun s hs => by have := hmap s hs; omega) _ (by omega), read_out h (by omega)]
  simp only [T.bool_b, Bool.not_false, beq_self_eq_true, cond_true]
  rw [specT_ok (by omega) _ _ _ _ _ _ _ _ _ (rS w.shards) (by omega) (by rw [rS_len]; omega), hT]
  simp only [T.rows_l]
  rw [same_ok (by omega) _ (by show (w.shards.foldl (fun m s => unionP m s.map) []).length ≤ _; simp at htl; omega)]
  simp only [T.bool_b, beq_self_eq_true, cond_true]
  subst hm'
  simp only [impl_TablesOf, T.rows_l]
  obtain ⟨r, hr, e⟩ := tabOf_loop m' (by omega) w.shards (fun s hs => by have := hmap s hs; omega) w.shards [] [] rfl (by omega) rfl m' (by omega) (fun y1 => (fun y33 : T => K (T.b ((y33.rows.length : Int) == ((rS w.shards).length : Int)))) (T.l y1.rows))
  rw [rS_len]
  rw [rS_len] at e
  refine Eq.trans e ?_
  simp only [T.rows_l]
  rw [hr]
  simp
end Go.Proofs.Ytjjonejgbdbnjaa

namespace Go.Proofs.Ytjjonejgbdbnjaa
open Go Go.E Go.Proofs Go.RowKit Go.Lib Go.Shelf
/-! slices.Insert at 39 (of 2 leaves) -/
theorem ins_info : (Try.prog.info? 39).map (fun i => (i.zero, i.size, i.bytes)) = some (some (.agg #[.string ⟨#[]⟩, .string ⟨#[]⟩]), 2, 32) := by kernel_rfl
set_option maxHeartbeats 8000000 in
set_option maxRecDepth 1000000 in
/-- in place, ahead of the end -/
theorem ins_shift {b n cap i vb vo m vc : Nat} {c : Array Value} {el : TypeId} {fz : Nat × Nat} {vs : List Value} {cv : Array Value} {elv : TypeId} {fv : Nat × Nat} {w : World} (hB : Block w b c el fz) (hsz : c.size = cap * 2) (hfz : ∀ o, o ≤ c.size → ¬ (fz.1 ≤ o ∧ o < fz.2)) (hS : ∀ v ∈ c.toList.take (n * 2), Single v)
    (hBv : Block w vb cv elv fv) (hfv : ∀ o, o ≤ cv.size → ¬ (fv.1 ≤ o ∧ o < fv.2)) (hvb : vb ≠ b) (hvl : vs.length = m * 2) (hcv : cv.size = vc * 2) (hmv : m ≤ vc) (hv : cv.toList.take (m * 2) = vs) (hSv : ∀ v ∈ vs, Single v) (hi : i < n) (hm : 0 < m) (hroom : n + m ≤ cap) (hmax : n + m ≤ 9223372036854775807) :
    Calls Try.prog 40 #[.slice (some ⟨b, 0, none⟩) n cap, .int .i64 i, .slice (some ⟨vb, 0, none⟩) m vc] w fun e w' => e = .returned (.slice (some ⟨b, 0, none⟩) (n + m) cap) ∧ ∃ c' q, w' = (World.put w b c' el fz).drewN q ∧ c'.size = c.size ∧
      c'.toList.take ((n + m) * 2) = c.toList.take (i * 2) ++ vs ++ (c.toList.take (n * 2)).drop (i * 2) := by
  have mixed : Try.prog.follows .mixedOrders = true := by kernel_rfl
  obtain ⟨i0, hi0, hz0, hzs, hzb⟩ := info_parts ins_info
  have hsizes : (Try.prog.info? 39).map (·.size) = some 2 := by rw [hi0]; simp [hzs]
  have hz1 : ¬ ((m : Int) = 0) := by omega
  have hz2 : ¬ ((i : Int) = (n : Int)) := by omega
  have hw1 : IntKind.i64.wrap ((i : Int) + (m : Int)) = (i : Int) + (m : Int) := by rw [IntKind.wrap_i64]; omega
  have hb1 : (0 : Int) ≤ (i : Int) + (m : Int) := by omega
  have hin : i ≤ n := by omega
  have htn : ((i : Int) + (m : Int)).toNat = i + m := by omega
  have hb2 : ¬ (cap = i + m) := by omega
  have hb3 : (i : Int) ≤ (n : Int) + (m : Int) := by omega
  have hb4 : ¬ (cap = i) := by omega
  have hov : ∀ lb cb, (callFunc 52 #[.slice (some ⟨vb, 0, none⟩) m vc, .slice (some ⟨b, (i + m) * 2, none⟩) lb cb]).run Try.prog w = .ok (.value (.bool false)) w := fun lb cb => by
    rw [run_callFunc_extern Try.func52 (by kernel_rfl) (by kernel_rfl) (by kernel_rfl) (e := Extern.SlicesOverlaps.overlaps #[34, 34] #[4]) (by kernel_rfl),
      Lib.run_overlaps_apart w 34 4 39 Try.underlying34 2 Try.sizeOf39 ⟨vb, 0, none⟩ ⟨b, (i + m) * 2, none⟩ m vc lb cb hvb elv el cv.size c.size (by unfold World.shape?; rw [hBv]) (by unfold World.shape?; rw [hB]) (by omega)
        (by unfold World.frozen?; rw [show w.heap[({ block := vb, off := 0 } : Addr).block]? = some (.cells cv elv fv) from hBv]; have := hfv 0 (by omega); simp only [Bool.and_eq_false_iff, decide_eq_false_iff_not]; omega)
        (by unfold World.frozen?; rw [show w.heap[({ block := vb, off := cv.size } : Addr).block]? = some (.cells cv elv fv) from hBv]; have := hfv cv.size (by omega); simp only [Bool.and_eq_false_iff, decide_eq_false_iff_not]; omega)]
    rfl
  obtain ⟨cs, hcs⟩ : ∃ cs, cs = (c.toList.take (n * 2)).drop (i * 2) := ⟨_, rfl⟩
  have hcl : cs.length = (n - i) * 2 := by rw [hcs, List.length_drop, List.length_take]; simp; omega
  have hcg : ∀ (W : World), Block W b c el fz → ∀ j v, cs[j]? = some v → W.cell? ((⟨b, i * 2, none⟩ : Addr).add j) = some v := fun W hW j v hj => by
    rw [Go.E.addr_add, cellP hW]
    rw [hcs, List.getElem?_drop, List.getElem?_take] at hj
    split at hj
    · simpa using hj
    · cases hj
  have hSc : ∀ v ∈ cs, Single v := fun v hv => hS v (by rw [hcs] at hv; exact List.mem_of_mem_drop hv)
  obtain ⟨c1, hc1⟩ : ∃ c1, c1 = (c.toList.take ((i + m) * 2) ++ cs ++ c.toList.drop ((i + m) * 2 + cs.length)).toArray := ⟨_, rfl⟩
  have hc1s : c1.size = c.size := by rw [hc1]; simp; omega
  have hBd : Block w.drew b c el fz := hB
  have hcp1 : ∀ ty dc sc, (Builtin.copy_ #[34, 34] ty #[.slice (some ⟨b, (i + m) * 2, none⟩) (n + m - (i + m)) dc, .slice (some ⟨b, i * 2, none⟩) (n + m - i) sc]).run Try.prog w.drew = .ok (goInt ((Nat.min (n + m - i) (n + m - (i + m)) : Nat) : Int)) (World.put w.drew b c1 el fz) := fun ty dc sc => by
    rw [hc1]
    exact run_copyK Try.underlying34 hsizes hBd (by rw [hcl]; congr 1; omega) (hcg w.drew hBd) (by omega) hfz hSc
  obtain ⟨W1, hW1⟩ : ∃ W1, W1 = World.put w.drew b c1 el fz := ⟨_, rfl⟩
  have hB1 : Block W1 b c1 el fz := by rw [hW1]; exact put_block hBd
  obtain ⟨c2, hc2⟩ : ∃ c2, c2 = (c1.toList.take (i * 2) ++ vs ++ c1.toList.drop (i * 2 + vs.length)).toArray := ⟨_, rfl⟩
  have hvg : ∀ (W : World), Block W vb cv elv fv → ∀ j v, vs[j]? = some v → W.cell? ((⟨vb, 0, none⟩ : Addr).add j) = some v := fun W hW j v hj => by
    rw [Go.E.addr_add, cellP hW, Nat.zero_add]
    rw [← hv, List.getElem?_take] at hj
    split at hj
    · simpa using hj
    · cases hj
  have hcp2 : ∀ (W : World), Block W b c1 el fz → Block W vb cv elv fv → ∀ ty dc, (Builtin.copy_ #[34, 34] ty #[.slice (some ⟨b, i * 2, none⟩) (n + m - i) dc, .slice (some ⟨vb, 0, none⟩) m vc]).run Try.prog W = .ok (goInt ((Nat.min m (n + m - i) : Nat) : Int)) (World.put W b c2 el fz) := fun W h1 h2 ty dc => by
    rw [hc2]
    exact run_copyK Try.underlying34 hsizes h1 (by rw [hvl]; congr 1; omega) (hvg W h2) (by omega) (by rw [hc1s]; exact hfz) hSv
  rw [← hW1] at hcp1
  have HW1 : Hid (W1 = World.put w.drew b c1 el fz) := hW1
  have hin1 := ins_list c.toList cs vs (i * 2) (by rw [hcl, hvl]; simp; omega)
  have eim : (i + m) * 2 = i * 2 + vs.length := by rw [hvl, Nat.add_mul]
  rw [eim] at hc1
  have HL : Hid (c2.toList.take ((n + m) * 2) = c.toList.take (i * 2) ++ vs ++ cs) := by
    show c2.toList.take ((n + m) * 2) = c.toList.take (i * 2) ++ vs ++ cs
    rw [← hin1, hc2, hc1]
    congr 1
    omega
  have HS2 : Hid (c2.size = c.size) := by
    show c2.size = c.size
    rw [hc2, ← hc1s]; simp; omega
  have HCS : Hid (cs = (c.toList.take (n * 2)).drop (i * 2)) := hcs
  have hB1v : Block W1 vb cv elv fv := by rw [hW1]; exact put_other hBv hvb
  clear hW1 hc1 hc2 hcs eim hin1 hv
  go_enter Try.func40, Try.ntmps40
  go_wp2_with (simp only [hov])
  go_region_law_o (refine step_copy_runI rfl _ _ 34 34 rfl _ _ (by simp [Act.eval, Act.put]) (by simp [Act.eval, Act.put]) (hcp1 _ _ _) ?_)
  go_wp2_with (at_builtin; refine wpList_copy_runI _ rfl _ _ 34 34 rfl _ _ rfl rfl (hcp2 _ hB1 hB1v _ _) ?_)
  go_ret
  refine ⟨rfl, c2, 1, ?_, HS2.out, ?_⟩
  · rw [HW1.out, put_put]; rfl
  · rw [← HCS.out]; exact HL.out
set_option maxHeartbeats 8000000 in
set_option maxRecDepth 1000000 in
/-- at the end, with room -/
theorem ins_end_room {b n cap vb m vc : Nat} {c : Array Value} {el : TypeId} {fz : Nat × Nat} {vs : List Value} {cv : Array Value} {elv : TypeId} {fv : Nat × Nat} {w : World} (hB : Block w b c el fz) (hsz : c.size = cap * 2) (hfz : ∀ o, o ≤ c.size → ¬ (fz.1 ≤ o ∧ o < fz.2))
    (hBv : Block w vb cv elv fv) (hvl : vs.length = m * 2) (hv : cv.toList.take (m * 2) = vs) (hSv : ∀ v ∈ vs, Single v) (hm : 0 < m) (hroom : n + m ≤ cap) (hmax : n + m ≤ 9223372036854775807) :
    Calls Try.prog 40 #[.slice (some ⟨b, 0, none⟩) n cap, .int .i64 n, .slice (some ⟨vb, 0, none⟩) m vc] w fun e w' => e = .returned (.slice (some ⟨b, 0, none⟩) (n + m) cap) ∧ ∃ c' q, w' = (World.put w b c' el fz).drewN q ∧ c'.size = c.size ∧
      c'.toList.take ((n + m) * 2) = c.toList.take (n * 2) ++ vs ++ (c.toList.take (n * 2)).drop (n * 2) := by
  have mixed : Try.prog.follows .mixedOrders = true := by kernel_rfl
  obtain ⟨i0, hi0, hz0, hzs, hzb⟩ := info_parts ins_info
  have hz1 : ¬ ((m : Int) = 0) := by omega
  have hvg : ∀ j v, vs[j]? = some v → w.cell? ((⟨vb, 0, none⟩ : Addr).add j) = some v := fun j v hj => by
    rw [Go.E.addr_add, cellP hBv, Nat.zero_add]
    rw [← hv, List.getElem?_take] at hj
    split at hj
    · simpa using hj
    · cases hj
  have hsrc : Src Try.prog 2 34 (.slice (some ⟨vb, 0, none⟩) m vc) m vs w := Src.ofSlice w Try.underlying34 ⟨vb, 0, none⟩ m vc vs hvl hvg (fun v h => (hSv v h).one)
  obtain ⟨c', hc'⟩ : ∃ c', c' = (c.toList.take (n * 2) ++ vs ++ c.toList.drop (n * 2 + vs.length)).toArray := ⟨_, rfl⟩
  have hrun : ∀ ty, (Builtin.append_ #[34, 34] ty #[.slice (some ⟨b, 0, none⟩) n cap, .slice (some ⟨vb, 0, none⟩) m vc]).run Try.prog w = .ok (.slice (some ⟨b, 0, none⟩) (n + m) cap) (World.put w b c' el fz) := fun ty => by
    rw [hc']
    exact append_roomK Try.underlying34 hi0 hzs hsrc hroom hB (by omega) hSv hfz
  have HS : Hid (c'.size = c.size) := by
    show c'.size = c.size
    rw [hc']; simp; omega
  have HL : Hid (c'.toList.take ((n + m) * 2) = c.toList.take (n * 2) ++ vs ++ (c.toList.take (n * 2)).drop (n * 2)) := by
    show c'.toList.take ((n + m) * 2) = c.toList.take (n * 2) ++ vs ++ (c.toList.take (n * 2)).drop (n * 2)
    have e0 : (c.toList.take (n * 2)).drop (n * 2) = [] := List.drop_eq_nil_of_le (by rw [List.length_take]; omega)
    have el : (c.toList.take (n * 2) ++ vs).length = (n + m) * 2 := by rw [List.length_append, List.length_take, hvl, Array.length_toList, hsz, Nat.min_eq_left (by omega)]; omega
    rw [e0, List.append_nil, hc', ← el]
    exact List.take_left
  clear hc' hv hvg
  go_enter Try.func40, Try.ntmps40
  go_wp2_with (at_builtin; refine Lib.wpList_append_run _ rfl _ _ _ _ rfl _ _ rfl rfl _ _ (hrun _) ?_)
  go_ret
  exact ⟨rfl, c', 0, rfl, HS.out, HL.out⟩
set_option maxHeartbeats 8000000 in
set_option maxRecDepth 1000000 in
/-- at the end, without room -/
theorem ins_end_grow {base : Option Addr} {n cap vb m vc : Nat} {olds vs : List Value} {cv : Array Value} {elv : TypeId} {fv : Nat × Nat} {w : World} (hcap : n ≤ cap)
    (hold : (Builtin.firstCells 2 n (.slice base n cap)).run Try.prog w.drew = .ok olds.toArray w.drew) (hol : olds.length = n * 2)
    (hBv : Block w vb cv elv fv) (hvl : vs.length = m * 2) (hv : cv.toList.take (m * 2) = vs) (hSv : ∀ v ∈ vs, Single v) (hm : 0 < m) (hroom : cap < n + m) (hbig : (n + m) * 32 ≤ 140737488355328) :
    Calls Try.prog 40 #[.slice base n cap, .int .i64 n, .slice (some ⟨vb, 0, none⟩) m vc] w fun e w' => e = .returned (.slice (some ⟨w.heap.size, 0, none⟩) (n + m) (grownCap w (n + m) cap 39)) ∧ ∃ c' q, w' = (w.alloc (.cells c' 39)).drewN q ∧ c'.size = grownCap w (n + m) cap 39 * 2 ∧ n + m ≤ grownCap w (n + m) cap 39 ∧
      c'.toList.take ((n + m) * 2) = olds ++ vs := by
  have mixed : Try.prog.follows .mixedOrders = true := by kernel_rfl
  obtain ⟨i0, hi0, hz0, hzs, hzb⟩ := info_parts ins_info
  have hz1 : ¬ ((m : Int) = 0) := by omega
  have hvg : ∀ j v, vs[j]? = some v → w.cell? ((⟨vb, 0, none⟩ : Addr).add j) = some v := fun j v hj => by
    rw [Go.E.addr_add, cellP hBv, Nat.zero_add]
    rw [← hv, List.getElem?_take] at hj
    split at hj
    · simpa using hj
    · cases hj
  have hsrc : Src Try.prog i0.size 34 (.slice (some ⟨vb, 0, none⟩) m vc) m vs w := by
    rw [hzs]
    exact Src.ofSlice w Try.underlying34 ⟨vb, 0, none⟩ m vc vs hvl hvg (fun v h => (hSv v h).one)
  rw [← hzs] at hold
  have hrun : ∀ ty, (Builtin.append_ #[34, 34] ty #[.slice base n cap, .slice (some ⟨vb, 0, none⟩) m vc]).run Try.prog w = _ := fun ty =>
    run_append_grow_src w 34 34 ty 39 i0 _ Try.underlying34 hi0 hz0 base n cap olds hold _ m vs hsrc hroom (by omega) (by rw [hzb]; exact growslice_fits hroom hbig)
  have hge := grownCap_ge w (n + m) cap 39
  obtain ⟨g, hg⟩ : ∃ g, g = grownCap w (n + m) cap 39 := ⟨_, rfl⟩
  rw [← hg] at hrun hge ⊢
  obtain ⟨c', hc'⟩ : ∃ c', c' = (olds ++ vs).toArray ++ Builtin.zeroCells ((.agg #[.string ⟨#[]⟩, .string ⟨#[]⟩]) : Value).cells (g - (n + m)) := ⟨_, rfl⟩
  rw [← hc'] at hrun
  have HS : Hid (c'.size = g * 2) := by
    show c'.size = g * 2
    have hzc : (((.agg #[.string ⟨#[]⟩, .string ⟨#[]⟩]) : Value).cells).size = 2 := rfl
    rw [hc', Array.size_append, size_zeroCells, hzc]; simp; omega
  have HL : Hid (c'.toList.take ((n + m) * 2) = olds ++ vs) := by
    show c'.toList.take ((n + m) * 2) = olds ++ vs
    rw [hc', Array.toList_append]
    simp only [List.toList_toArray]
    rw [List.take_append_of_le_length (by simp; omega), List.take_of_length_le (by simp; omega)]
  clear hc' hv hvg hg hold
  go_enter Try.func40, Try.ntmps40
  cases base with
  | none =>
    go_wp2_with (at_builtin; refine Lib.wpList_append_run _ rfl _ _ _ _ rfl _ _ rfl rfl _ _ (hrun _) ?_)
    all_goals (go_ret; first | exact ⟨rfl, c', 1, rfl, HS.out, hge, HL.out⟩ | exact ⟨rfl, c', ⟨1, rfl⟩, HS.out, HL.out⟩ | exact ⟨rfl, c', ⟨1, rfl⟩, HS.out, hge, HL.out⟩)
  | some a =>
    obtain ⟨ab, ao, asp⟩ := a
    go_wp2_with (at_builtin; refine Lib.wpList_append_run _ rfl _ _ _ _ rfl _ _ rfl rfl _ _ (hrun _) ?_)
    all_goals (go_ret; first | exact ⟨rfl, c', 1, rfl, HS.out, hge, HL.out⟩ | exact ⟨rfl, c', ⟨1, rfl⟩, HS.out, HL.out⟩ | exact ⟨rfl, c', ⟨1, rfl⟩, HS.out, hge, HL.out⟩)
set_option maxHeartbeats 8000000 in
set_option maxRecDepth 1000000 in
/-- ahead of the end, without room -/
theorem ins_grow {b n cap i vb m vc : Nat} {c : Array Value} {el : TypeId} {fz : Nat × Nat} {vs : List Value} {cv : Array Value} {elv : TypeId} {fv : Nat × Nat} {w : World} (hB : Block w b c el fz) (hsz : c.size = cap * 2) (hcap : n ≤ cap) (hS : ∀ v ∈ c.toList.take (n * 2), Single v)
    (hBv : Block w vb cv elv fv) (hvl : vs.length = m * 2) (hv : cv.toList.take (m * 2) = vs) (hSv : ∀ v ∈ vs, Single v) (hi : i < n) (hm : 0 < m) (hroom : cap < n + m) (hbig : (n + m) * 32 ≤ 140737488355328) :
    Calls Try.prog 40 #[.slice (some ⟨b, 0, none⟩) n cap, .int .i64 i, .slice (some ⟨vb, 0, none⟩) m vc] w fun e w' => e = .returned (.slice (some ⟨w.heap.size, 0, none⟩) (n + m) (grownCap w (n + m) cap 39)) ∧ ∃ c' q, w' = (w.alloc (.cells c' 39)).drewN q ∧ c'.size = grownCap w (n + m) cap 39 * 2 ∧ n + m ≤ grownCap w (n + m) cap 39 ∧
      c'.toList.take ((n + m) * 2) = c.toList.take (i * 2) ++ vs ++ (c.toList.take (n * 2)).drop (i * 2) := by
  have mixed : Try.prog.follows .mixedOrders = true := by kernel_rfl
  obtain ⟨i0, hi0, hz0, hzs, hzb⟩ := info_parts ins_info
  have hsizes : (Try.prog.info? 39).map (·.size) = some 2 := by rw [hi0]; simp [hzs]
  have hz1 : ¬ ((m : Int) = 0) := by omega
  have hz2 : ¬ ((i : Int) = (n : Int)) := by omega
  have hz3 : (cap : Int) < (n : Int) + (m : Int) := by omega
  have hkk : (n : Int) + (m : Int) - (i : Int) = ((n + m - i : Nat) : Int) := by omega
  have hik : i + (n + m - i) = n + m := by omega
  obtain ⟨hd, hhd⟩ : ∃ hd, hd = c.toList.take (i * 2) := ⟨_, rfl⟩
  have hhl : hd.length = i * 2 := by rw [hhd, List.length_take]; simp; omega
  obtain ⟨cs, hcs⟩ : ∃ cs, cs = (c.toList.take (n * 2)).drop (i * 2) := ⟨_, rfl⟩
  have hcl : cs.length = (n - i) * 2 := by rw [hcs, List.length_drop, List.length_take]; simp; omega
  have hSc : ∀ v ∈ cs, Single v := fun v hv => hS v (by rw [hcs] at hv; exact List.mem_of_mem_drop hv)
  have hcg : ∀ (W : World), Block W b c el fz → ∀ j v, cs[j]? = some v → W.cell? ((⟨b, i * 2, none⟩ : Addr).add j) = some v := fun W hW j v hj => by
    rw [Go.E.addr_add, cellP hW]
    rw [hcs, List.getElem?_drop, List.getElem?_take] at hj
    split at hj
    · simpa using hj
    · cases hj
  have hvg : ∀ (W : World), Block W vb cv elv fv → ∀ j v, vs[j]? = some v → W.cell? ((⟨vb, 0, none⟩ : Addr).add j) = some v := fun W hW j v hj => by
    rw [Go.E.addr_add, cellP hW, Nat.zero_add]
    rw [← hv, List.getElem?_take] at hj
    split at hj
    · simpa using hj
    · cases hj
  have hold : (Builtin.firstCells i0.size i (.slice (some ⟨b, 0, none⟩) i cap)).run Try.prog w.drew = .ok hd.toArray w.drew := by
    rw [hzs]
    exact run_firstCells_some w.drew 2 i ⟨b, 0, none⟩ i cap hd hhl (fun j v hj => by
      rw [Go.E.addr_add, Nat.zero_add]
      show w.cell? _ = _
      rw [cellP hB]
      rw [hhd, List.getElem?_take] at hj
      split at hj
      · simpa using hj
      · cases hj)
  obtain ⟨G, hG⟩ : ∃ G, G = grownCap w (n + m) cap 39 := ⟨_, rfl⟩
  obtain ⟨ROW, hROW⟩ : ∃ ROW : Array Value, ROW = hd.toArray ++ Builtin.zeroCells ((.agg #[.string ⟨#[]⟩, .string ⟨#[]⟩]) : Value).cells (n + m - i) ++ Builtin.zeroCells ((.agg #[.string ⟨#[]⟩, .string ⟨#[]⟩]) : Value).cells (G - (n + m)) := ⟨_, rfl⟩
  have hrz : ∀ ty, (Builtin.append_ #[34, 3] ty #[.slice (some ⟨b, 0, none⟩) i cap, .int .i64 ((n : Int) + (m : Int) - (i : Int))]).run Try.prog w = .ok (.slice (some ⟨w.heap.size, 0, none⟩) (n + m) G) (w.drew.alloc (.cells ROW 39)) := fun ty => by
    have h := Lib.run_append_grow_zeros w 34 3 ty 39 i0 _ .i64 .i64 Try.underlying34 Try.underlying3 hi0 hz0 (some ⟨b, 0, none⟩) i cap hd hold (n + m - i) (by omega) (by omega) (by omega) (by omega) (by rw [hzb]; omega) (by rw [hzb, hik]; exact growslice_fits hroom hbig)
    rw [hik] at h
    rw [hkk, hROW, hG]
    exact h
  have hge := grownCap_ge w (n + m) cap 39
  have hG63 : G ≤ 9223372036854775807 := by
    have := grownCap_le_maxLen w (n + m) cap 39 (by unfold maxLen; omega)
    rw [← hG] at this
    unfold maxLen at this
    omega
  rw [← hG] at hge ⊢
  have hzc : (((.agg #[.string ⟨#[]⟩, .string ⟨#[]⟩]) : Value).cells).size = 2 := rfl
  have hRs : ROW.size = G * 2 := by
    rw [hROW, Array.size_append, Array.size_append, size_zeroCells, size_zeroCells, hzc]
    simp only [List.size_toArray, hhl]
    omega
  have hRt : ROW.toList.take (i * 2) = hd := by
    rw [hROW, Array.toList_append, Array.toList_append]
    simp only [List.toList_toArray]
    rw [List.append_assoc, ← hhl, List.take_left]
  obtain ⟨N, hN⟩ : ∃ N, N = w.heap.size := ⟨_, rfl⟩
  obtain ⟨W1, hW1⟩ : ∃ W1, W1 = w.drew.alloc (.cells ROW 39) := ⟨_, rfl⟩
  have hlb : b < w.heap.size := (Array.getElem?_eq_some_iff.1 hB).1
  have hlv : vb < w.heap.size := (Array.getElem?_eq_some_iff.1 hBv).1
  have hN1 : Block W1 N ROW 39 (0, 0) := by rw [hW1, hN]; exact block_alloc (w := w.drew)
  have hOb : Block W1 b c el fz := by rw [hW1]; exact block_alloc_old (w := w.drew) hB
  have hOv : Block W1 vb cv elv fv := by rw [hW1]; exact block_alloc_old (w := w.drew) hBv
  obtain ⟨c1, hc1⟩ : ∃ c1, c1 = (ROW.toList.take (i * 2) ++ vs ++ ROW.toList.drop (i * 2 + vs.length)).toArray := ⟨_, rfl⟩
  have hc1s : c1.size = ROW.size := by rw [hc1]; simp; omega
  have hcpA : ∀ (W : World), Block W N ROW 39 (0, 0) → Block W vb cv elv fv → ∀ ty dc, (Builtin.copy_ #[34, 34] ty #[.slice (some ⟨N, i * 2, none⟩) (n + m - i) dc, .slice (some ⟨vb, 0, none⟩) m vc]).run Try.prog W = .ok (goInt ((Nat.min m (n + m - i) : Nat) : Int)) (World.put W N c1 39 (0, 0)) := fun W h1 h2 ty dc => by
    rw [hc1]
    exact run_copyK Try.underlying34 hsizes h1 (by rw [hvl]; congr 1; omega) (hvg W h2) (by omega) (fun o ho => by simp) hSv
  obtain ⟨c2, hc2⟩ : ∃ c2, c2 = (c1.toList.take ((i + m) * 2) ++ cs ++ c1.toList.drop ((i + m) * 2 + cs.length)).toArray := ⟨_, rfl⟩
  have hcpB : ∀ (W : World), Block W N c1 39 (0, 0) → Block W b c el fz → ∀ ty dc sc, (Builtin.copy_ #[34, 34] ty #[.slice (some ⟨N, (i + m) * 2, none⟩) (n + m - (i + m)) dc, .slice (some ⟨b, i * 2, none⟩) (n - i) sc]).run Try.prog W = .ok (goInt ((Nat.min (n - i) (n + m - (i + m)) : Nat) : Int)) (World.put W N c2 39 (0, 0)) := fun W h1 h2 ty dc sc => by
    rw [hc2]
    exact run_copyK Try.underlying34 hsizes h1 (by rw [hcl]; congr 1; omega) (hcg W h2) (by omega) (fun o ho => by simp) hSc
  have HL : Hid (c2.toList.take ((n + m) * 2) = c.toList.take (i * 2) ++ vs ++ (c.toList.take (n * 2)).drop (i * 2)) := by
    show c2.toList.take ((n + m) * 2) = c.toList.take (i * 2) ++ vs ++ (c.toList.take (n * 2)).drop (i * 2)
    have el1 : (c1.toList.take ((i + m) * 2)) = hd ++ vs := by
      have e : (hd ++ vs).length = (i + m) * 2 := by rw [List.length_append, hhl, hvl]; omega
      rw [hc1, hRt, ← e]
      exact List.take_left
    have el2 : (hd ++ vs ++ cs).length = (n + m) * 2 := by rw [List.length_append, List.length_append, hhl, hvl, hcl]; omega
    rw [hc2, el1, ← hhd, ← hcs, ← el2]
    exact List.take_left
  have HS : Hid (c2.size = G * 2) := by
    show c2.size = G * 2
    rw [← hRs, ← hc1s, hc2]
    simp
    omega
  have hneN : b ≠ N := by omega
  have hneV : vb ≠ N := by omega
  have HW1 : Hid (W1 = w.drew.alloc (.cells ROW 39)) := hW1
  have HN : Hid (N = w.heap.size) := hN
  rw [← hN] at hrz ⊢
  rw [← hW1] at hrz
  have hw1 : IntKind.i64.wrap ((i : Int) + (m : Int)) = (i : Int) + (m : Int) := by rw [IntKind.wrap_i64]; omega
  have hb1 : (0 : Int) ≤ (i : Int) + (m : Int) := by omega
  have hin : i ≤ n := by omega
  have htn : ((i : Int) + (m : Int)).toNat = i + m := by omega
  have hb3 : (i : Int) ≤ (n : Int) := by omega
  have hGi : ¬ (G = i) := by omega
  have hGim : ¬ (G = i + m) := by omega
  have hci : ¬ (cap = i) := by omega
  have hBd1 : Block (World.put W1 N c1 39 (0, 0)).drew N c1 39 (0, 0) := put_block hN1
  have hBd2 : Block (World.put W1 N c1 39 (0, 0)).drew b c el fz := put_other hOb hneN
  clear hkk hik hold hROW hG hc1 hc2 hhd hcs hW1 hN hRt hRs
  go_enter Try.func40, Try.ntmps40
  go_wp2_with (first
    | (at_builtin; refine Lib.wpList_append_run _ rfl _ _ _ _ rfl _ _ rfl rfl _ _ (hrz _) ?_)
    | (at_builtin; refine wpList_copy_runI _ rfl _ _ 34 34 rfl _ _ rfl rfl (hcpA _ hN1 hOv _ _) ?_))
  go_region_law_o (refine step_copy_runI rfl _ _ 34 34 rfl _ _ (by simp [Act.eval, Act.put]) (by simp [Act.eval, Act.put]) (hcpB _ hBd1 hBd2 _ _ _) ?_)
  go_wp2
  go_ret
  have HE : World.put (World.put W1 N c1 39 (0, 0)).drew N c2 39 (0, 0) = (w.alloc (.cells c2 39)).drewN 2 := by
    show World.put (World.put W1.drew N c1 39 (0, 0)) N c2 39 (0, 0) = _
    rw [put_put, HW1.out, HN.out]
    exact put_alloc (w := w.drew.drew)
  first | exact ⟨rfl, c2, 2, HE, HS.out, hge, HL.out⟩ | exact ⟨rfl, c2, ⟨2, HE⟩, HS.out, hge, HL.out⟩
end Go.Proofs.Ytjjonejgbdbnjaa

namespace Go.Proofs
open Go Go.Shelf
def Try.laysClone_ren : Go.Shelf.Ren := ⟨fun | 41 => 18 | n => n, fun | 22 => 34 | 23 => 39 | n => n, fun | n => n⟩
theorem Try.laysClone : SlLaysE0.n41 Try.prog Try.laysClone_ren where
  mixed := by kernel_rfl
  f41 := ⟨Try.f18.name, by kernel_rfl, Try.func18.trans (congrArg some (by kernel_rfl))⟩
  t4 := Try.underlying4
  a4 := Try.isAgg4
  z4 := Try.sizeOf4
  v4 := Try.zeroValue4
  t22 := Try.underlying34
  a22 := Try.isAgg34
  z22 := Try.sizeOf34
  v22 := Try.zeroValue34
end Go.Proofs
namespace Go.Proofs.Ytjjonejgbdbnjaa
open Go Go.E Go.Proofs Go.RowKit
mutual
theorem bulk_eq {H : Type} : ∀ d : DataW H, Rows.uptoBulk d = bulkW d
  | .lit l => by cases l <;> simp [Rows.uptoBulk, bulkW]
  | .nil => by simp [Rows.uptoBulk, bulkW]
  | .ptr d => by simp [Rows.uptoBulk, bulkW, bulk_eq d]
  | .slice elems spare => by simp [Rows.uptoBulk, bulkW, bulkAll_eq elems, bulkAll_eq spare]
  | .agg parts => by simp [Rows.uptoBulk, bulkW, bulkAll_eq parts]
  | .iface t d => by simp [Rows.uptoBulk, bulkW, bulk_eq d]
  | .map entries => by simp [Rows.uptoBulk, bulkW, bulkEntries_eq entries]
  | .held h => by simp [Rows.uptoBulk, bulkW]
theorem bulkAll_eq {H : Type} : ∀ ds : List (DataW H), Rows.uptoBulkAll ds = bulkAll ds
  | [] => by simp [Rows.uptoBulkAll, bulkAll]
  | d :: r => by simp [Rows.uptoBulkAll, bulkAll, bulk_eq d, bulkAll_eq r]
theorem bulkEntries_eq {H : Type} : ∀ ds : List (Lit × DataW H), Rows.uptoBulkEntries ds = bulkEntries ds
  | [] => by simp [Rows.uptoBulkEntries, bulkEntries]
  | x :: r => by simp [Rows.uptoBulkEntries, bulkEntries, bulkEntry_eq x, bulkEntries_eq r]
theorem bulkEntry_eq {H : Type} : ∀ x : Lit × DataW H, Rows.uptoBulkEntry x = bulkEntry x
  | (l, d) => by cases l <;> simp [Rows.uptoBulkEntry, bulkEntry, bulk_eq d]
end
theorem upto_le {H : Type} {ds : List (DataW H)} (h : Rows.uptoSmall H ds = true) : bulkAll ds ≤ 1048576 := by
  rw [← bulkAll_eq]
  exact of_decide_eq_true h
theorem laid : laidOutB Try.prog = true := by kernel_rfl
theorem cx_ok : CtxOk CX Try.prog := ctx_ok (tab := tyTab) (fns := fnTab) rfl rfl (by kernel_rfl) fns_ok (by kernel_rfl)
theorem insRuns : InsRuns Try.prog 40 2 32 39 where
  shift := ins_shift (vo := 0)
  room := ins_end_room
  endg := ins_end_grow
  grow := ins_grow
theorem prims_ok : PrimOk CX Try.prog prims := fun f g args h hne => by
  unfold prims at h
  cases h1 : Nat.beq f 18 with
  | true =>
    rw [h1] at h; cases h
    have := Nat.eq_of_beq_eq_true h1
    subst this
    obtain ⟨te, hte, hl⟩ : ∃ te : TI, CX.ty (Try.laysClone_ren.t 23) = some te ∧ te.lts = [.sc (.str), .sc (.str)] := ⟨_, rfl, rfl⟩
    have := @primClone_ok CX Try.prog Try.laysClone_ren cx_ok Try.laysClone te hte (by rw [hl]; simp) args
    rw [hl] at this
    exact this hne
  | false =>
    rw [h1] at h
    cases h2 : Nat.beq f 40 with
    | true =>
      rw [h2] at h; cases h
      have := Nat.eq_of_beq_eq_true h2
      subst this
      exact primInsert_ok (by decide) (by decide) insRuns hne
    | false => rw [h2] at h; cases h
theorem own : ownKnob Try.prog.godebug = none := by kernel_rfl
end Go.Proofs.Ytjjonejgbdbnjaa

