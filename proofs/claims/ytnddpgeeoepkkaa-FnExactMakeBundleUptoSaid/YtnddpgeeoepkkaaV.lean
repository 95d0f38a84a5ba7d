/- A part of the proof: texts S8AF, S8AG, S8V, S8AH, S8AI: see the last part's opening words. -/
import Derived.Test.YtnddpgeeoepkkaaA
set_option linter.unusedVariables false
set_option linter.unusedSimpArgs false
set_option linter.unnecessarySimpa false
namespace Go.Proofs.Ytnddpgeeoepkkaa
open Go Go.E Go.Proofs
abbrev KV := ByteArray × ByteArray
def ordOk : Option KV → List KV → Bool
  | _, [] => true
  | q, p :: ps => pairOkP p.1 p.2 && (match q with | none => true | some q => blt q.1 p.1) && ordOk (some p) ps
def pairsOkP (l : List KV) : Bool := ordOk none l && decide (l.length ≤ 60)
theorem rK0 (x : KV) : (rK x).getD 0 dflt = .s x.1 := rfl
theorem rK1 (x : KV) : (rK x).getD 1 dflt = .s x.2 := rfl
theorem ixK (pre : List KV) (x : KV) (post : List KV) : ((pre ++ x :: post).map rK).getD (Int.toNat (pre.length : Int)) [] = rK x := by simp [List.getD]
theorem ixK1 (pre : List KV) (q x : KV) (post : List KV) : ((pre ++ q :: x :: post).map rK).getD (Int.toNat (pre.length : Int)) [] = rK q := by simp [List.getD]
theorem blt_not (a b : ByteArray) : (!(Op.bytesLess a.toList b.toList)) = (Op.bytesLess b.toList a.toList || b.toList == a.toList) := (bl_tri b.toList a.toList).symm
theorem specPairs_loop (m : Nat) (hm : 1048590 ≤ m) : ∀ (post pre : List KV), (∀ p ∈ post, p.1.size ≤ 1048576) → pre.length + post.length ≤ 1048576 → ∀ n, post.length < n → ∀ k0 k1,
    spec_PairsOk_L0_0 m n (.l ((pre ++ post).map rK)) (.i pre.length) k0 k1 = cond (ordOk pre.getLast? post) (k1 (.l ((pre ++ post).map rK))) (k0 (.b false))
  | [], pre, ho, hs, n, hn, k0, k1 => by
    obtain ⟨n, rfl⟩ : ∃ m', n = m' + 1 := ⟨n - 1, by omega⟩
    simp only [spec_PairsOk_L0_0, T.int_i, T.rows_l]
    rw [dec_f (by simp)]
    rfl
  | x :: post, pre, ho, hs, n, hn, k0, k1 => by
    obtain ⟨n, rfl⟩ : ∃ m', n = m' + 1 := ⟨n - 1, by omega⟩
    simp only [List.length_cons] at hs hn
    have ih := specPairs_loop m hm post (pre ++ [x]) (fun p hp => ho p (by simp [hp])) (by simp; omega) n (by omega) k0 k1
    rw [len_snoc, List.append_assoc, List.singleton_append, List.getLast?_concat] at ih
    simp only [spec_PairsOk_L0_0, T.int_i, T.rows_l, ixK, ix_nx pre (by omega), rK0, rK1]
    rw [dec_t (by simp; omega), dec_t (by simp; omega)]
    rw [specPairOk _ _ (ho x (by simp)) (by omega)]
    simp only [ordOk, T.bool_b]
    cases h : pairOkP x.1 x.2 with
    | false => rfl
    | true =>
      rcases List.eq_nil_or_concat pre with rfl | ⟨pre, q, rfl⟩
      · simpa using ih
      · simp only [List.concat_eq_append] at hs ih ⊢
        simp only [List.length_append, List.length_singleton, List.length_cons, List.length_nil] at hs
        have e : IntKind.i64.wrap (((pre ++ [q]).length : Int) - 1) = (pre.length : Int) := by rw [wrap_i64 (by omega) (by simp; omega)]; simp
        simp only [e, List.append_assoc, List.singleton_append, ixK1, rK0, T.str_s, List.getLast?_concat]
        rw [cond_t (by rfl : ((!true) == false) = true), cond_t (by simp <;> omega), dec_t (by simp <;> omega), dec_t (by simp <;> omega)]
        simp only [List.append_assoc, List.singleton_append] at ih
        unfold blt
        cases hb : Op.bytesLess q.1.toList x.1.toList with
        | false => rfl
        | true => simpa using ih
theorem specPairs_ok {m : Nat} (hm : 1048600 ≤ m) (l : List KV) (ho : ∀ p ∈ l, p.1.size ≤ 1048576) (hl : l.length ≤ 1048576) (K : T → An) : spec_PairsOk m (.l (l.map rK)) K = K (.b (pairsOkP l)) := by
  obtain ⟨m, rfl⟩ : ∃ m', m = m' + 1 := ⟨m - 1, by omega⟩
  simp only [spec_PairsOk, T.rows_l]
  refine (specPairs_loop m (by omega) l [] ho (by simpa using hl) m (by omega) _ _).trans ?_
  simp only [List.nil_append, List.getLast?_nil, T.rows_l, List.length_map, pairsOkP]
  have e : decide ((l.length : Int) ≤ 60) = decide (l.length ≤ 60) := decide_eq_decide.2 (by omega)
  rw [e]
  cases ordOk none l <;> rfl
theorem implPairs_loop (m : Nat) (hm : 1048590 ≤ m) : ∀ (post pre : List KV), (∀ p ∈ post, p.1.size ≤ 1048576) → pre.length + post.length ≤ 1048576 → ∀ n, post.length < n → ∀ k0 k1,
    impl_PairsOk_L0_0 m n (.l ((pre ++ post).map rK)) (.l ((pre ++ post).map rK)) (.i ((pre ++ post).length : Nat)) (.i pre.length) k0 k1 = cond (ordOk pre.getLast? post) (k1 (.l ((pre ++ post).map rK))) (k0 (.b false))
  | [], pre, ho, hs, n, hn, k0, k1 => by
    obtain ⟨n, rfl⟩ : ∃ m', n = m' + 1 := ⟨n - 1, by omega⟩
    simp only [impl_PairsOk_L0_0, T.int_i, T.rows_l]
    rw [dec_f (by simp)]
    rfl
  | x :: post, pre, ho, hs, n, hn, k0, k1 => by
    obtain ⟨n, rfl⟩ : ∃ m', n = m' + 1 := ⟨n - 1, by omega⟩
    simp only [List.length_cons] at hs hn
    have ih := implPairs_loop m hm post (pre ++ [x]) (fun p hp => ho p (by simp [hp])) (by simp; omega) n (by omega) k0 k1
    rw [len_snoc, List.append_assoc, List.singleton_append, List.getLast?_concat] at ih
    simp only [impl_PairsOk_L0_0, T.int_i, T.rows_l, ixK, ix_nx pre (by omega), rK0, rK1]
    rw [dec_t (by simp; omega), dec_t (by simp; omega)]
    rw [implPairOk _ _ (ho x (by simp)) (by omega)]
    simp only [ordOk, T.bool_b]
    cases h : pairOkP x.1 x.2 with
    | false => rfl
    | true =>
      rcases List.eq_nil_or_concat pre with rfl | ⟨pre, q, rfl⟩
      · simpa using ih
      · simp only [List.concat_eq_append] at hs ih ⊢
        simp only [List.length_append, List.length_singleton, List.length_cons, List.length_nil] at hs
        have e : IntKind.i64.wrap (((pre ++ [q]).length : Int) - 1) = (pre.length : Int) := by rw [wrap_i64 (by omega) (by simp; omega)]; simp
        simp only [e, List.append_assoc, List.singleton_append, ixK1, rK0, T.str_s, List.getLast?_concat]
        rw [cond_t (by rfl : ((!true) == false) = true), cond_t (by simp <;> omega), dec_t (by simp <;> omega), ← blt_not]
        simp only [List.append_assoc, List.singleton_append] at ih
        unfold blt
        cases hb : Op.bytesLess q.1.toList x.1.toList with
        | false => rfl
        | true => simpa using ih
theorem implPairs_ok {m : Nat} (hm : 1048600 ≤ m) (l : List KV) (ho : ∀ p ∈ l, p.1.size ≤ 1048576) (hl : l.length ≤ 1048576) (K : T → An) : impl_PairsOk m (.l (l.map rK)) K = K (.b (pairsOkP l)) := by
  obtain ⟨m, rfl⟩ : ∃ m', m = m' + 1 := ⟨m - 1, by omega⟩
  simp only [impl_PairsOk, T.rows_l, List.length_map]
  refine (implPairs_loop m (by omega) l [] ho (by simpa using hl) m (by omega) _ _).trans ?_
  simp only [List.nil_append, List.getLast?_nil, T.rows_l, List.length_map, pairsOkP]
  have e : decide ((l.length : Int) ≤ 60) = decide (l.length ≤ 60) := decide_eq_decide.2 (by omega)
  rw [e]
  cases ordOk none l <;> rfl
/-! paths -/
def path : Nat → List KV → Nat → List ByteArray
  | 0, _, _ => []
  | f + 1, l, i => if l.length < 2 then [] else if i < half l.length then path f (l.take (half l.length)) i ++ [inner 60 (l.drop (half l.length))]
    else path f (l.drop (half l.length)) (i - half l.length) ++ [inner 60 (l.take (half l.length))]
theorem path_len : ∀ (f : Nat) (l : List KV) (i : Nat), (path f l i).length ≤ f
  | 0, _, _ => Nat.le_refl _
  | f + 1, l, i => by
    unfold path
    split
    · simp
    · split
      · have := path_len f (l.take (half l.length)) i; simp; omega
      · have := path_len f (l.drop (half l.length)) (i - half l.length); simp; omega
theorem path_size : ∀ (f : Nat) (l : List KV) (i : Nat), ∀ s ∈ path f l i, s.size = 32
  | 0, _, _, s, hs => by simp [path] at hs
  | f + 1, l, i, s, hs => by
    unfold path at hs
    split at hs
    · simp at hs
    · split at hs
      · rcases List.mem_append.1 hs with h | h
        · exact path_size f _ _ s h
        · rw [List.mem_singleton.1 h]; exact inner_size _ _
      · rcases List.mem_append.1 hs with h | h
        · exact path_size f _ _ s h
        · rw [List.mem_singleton.1 h]; exact inner_size _ _
theorem sr_snoc (l : List ByteArray) (s : ByteArray) : sr l ++ [[T.s s]] = sr (l ++ [s]) := by simp [sr]
theorem specPath_ok : ∀ (f : Nat) (l : List KV) (i m : Nat), l.length ≤ f → l.length ≤ 60 → OkP l → i < l.length → f ≤ 60 → 20000400 + 2 * f ≤ m → ∀ K, spec_l4Path m (.l (l.map rK)) (.i i) K = K (.l (sr (path f l i)))
  | f, l, i, 0, hf, hl, ho, hi, hq, hm, K => by omega
  | 0, l, i, m + 1, hf, hl, ho, hi, hq, hm, K => by omega
  | f + 1, l, i, m + 1, hf, hl, ho, hi, hq, hm, K => by
    unfold path
    simp only [spec_l4Path, T.rows_l, List.length_map, T.int_i]
    by_cases h1 : l.length < 2
    · rw [dec_t (by omega), if_pos h1]; rfl
    · have hh := half_lt (n := l.length) (by omega)
      have et : (l.map rK).take l.length = l.map rK := List.take_of_length_le (by simp)
      rw [dec_f (by omega), if_neg h1, specHalf_ok (by omega) (by omega)]
      simp only [T.int_i, Int.toNat_natCast, et]
      have ht : OkP (l.take (half l.length)) := fun p hp => ho p (List.mem_of_mem_take hp)
      have hd : OkP (l.drop (half l.length)) := fun p hp => ho p (List.mem_of_mem_drop hp)
      have n1 := specInner_ok 60 (l.take (half l.length)) m (by simp; omega) (by simp; omega) ht (by omega)
      have n2 := specInner_ok 60 (l.drop (half l.length)) m (by simp; omega) (by simp; omega) hd (by omega)
      rw [List.map_take] at n1
      rw [List.map_drop] at n2
      by_cases h2 : i < half l.length
      · have ih := specPath_ok f (l.take (half l.length)) i m (by simp; omega) (by simp; omega) ht (by simp; omega) (by omega) (by omega)
        rw [List.map_take] at ih
        have hp := path_len f (l.take (half l.length)) i
        rw [dec_t (by omega), if_pos h2, dec_t (by omega), dec_t (by omega), ih]
        simp only [T.rows_l, sr_len]
        rw [dec_t (by omega), dec_t (by omega), n2]
        rw [dec_t (by unfold maxRow; omega), sr_snoc]
      · have ih := specPath_ok f (l.drop (half l.length)) (i - half l.length) m (by simp; omega) (by simp; omega) hd (by simp; omega) (by omega) (by omega)
        rw [List.map_drop] at ih
        have hp := path_len f (l.drop (half l.length)) (i - half l.length)
        have ew : IntKind.i64.wrap ((i : Int) - (half l.length : Nat)) = ((i - half l.length : Nat) : Int) := by rw [wrap_i64 (by omega) (by omega)]; omega
        rw [dec_f (by omega), if_neg h2, dec_t (by omega), dec_t (by omega), ew, ih]
        simp only [T.rows_l, sr_len]
        rw [dec_t (by omega), dec_t (by omega), n1]
        rw [dec_t (by unfold maxRow; omega), sr_snoc]
theorem implPath_ok : ∀ (f : Nat) (l : List KV) (i m : Nat), l.length ≤ f → l.length ≤ 60 → OkP l → i < l.length → f ≤ 60 → 400 + 2 * f ≤ m → ∀ K, impl_pathOf m (.l (l.map rK)) (.i i) K = K (.l (sr (path f l i)))
  | f, l, i, 0, hf, hl, ho, hi, hq, hm, K => by omega
  | 0, l, i, m + 1, hf, hl, ho, hi, hq, hm, K => by omega
  | f + 1, l, i, m + 1, hf, hl, ho, hi, hq, hm, K => by
    unfold path
    simp only [impl_pathOf, T.rows_l, List.length_map, T.int_i]
    by_cases h1 : l.length < 2
    · rw [cond_t (by simp; omega), if_pos h1]; rfl
    · have hh := half_lt (n := l.length) (by omega)
      have et : (l.map rK).take l.length = l.map rK := List.take_of_length_le (by simp)
      rw [cond_f (by simp; omega), if_neg h1, implHalf_ok (by omega) (by omega)]
      simp only [T.int_i, Int.toNat_natCast, et]
      have ht : OkP (l.take (half l.length)) := fun p hp => ho p (List.mem_of_mem_take hp)
      have hd : OkP (l.drop (half l.length)) := fun p hp => ho p (List.mem_of_mem_drop hp)
      have n1 := implInner_ok 60 (l.take (half l.length)) m (by simp; omega) (by simp; omega) ht (by omega)
      have n2 := implInner_ok 60 (l.drop (half l.length)) m (by simp; omega) (by simp; omega) hd (by omega)
      rw [List.map_take] at n1
      rw [List.map_drop] at n2
      by_cases h2 : i < half l.length
      · have ih := implPath_ok f (l.take (half l.length)) i m (by simp; omega) (by simp; omega) ht (by simp; omega) (by omega) (by omega)
        rw [List.map_take] at ih
        have hp := path_len f (l.take (half l.length)) i
        rw [dec_t (by omega), if_pos h2, dec_t (by omega), dec_t (by omega), ih]
        simp only [T.rows_l, sr_len]
        rw [dec_t (by omega), dec_t (by omega), n2]
        rw [dec_t (by unfold maxRow; omega), sr_snoc]
      · have ih := implPath_ok f (l.drop (half l.length)) (i - half l.length) m (by simp; omega) (by simp; omega) hd (by simp; omega) (by omega) (by omega)
        rw [List.map_drop] at ih
        have hp := path_len f (l.drop (half l.length)) (i - half l.length)
        have ew : IntKind.i64.wrap ((i : Int) - (half l.length : Nat)) = ((i - half l.length : Nat) : Int) := by rw [wrap_i64 (by omega) (by omega)]; omega
        rw [dec_f (by omega), if_neg h2, dec_t (by omega), dec_t (by omega), ew, ih]
        simp only [T.rows_l, sr_len]
        rw [dec_t (by omega), dec_t (by omega), n1]
        rw [dec_t (by unfold maxRow; omega), sr_snoc]
end Go.Proofs.Ytnddpgeeoepkkaa

namespace Go.Proofs.Ytnddpgeeoepkkaa
open Go Go.E Go.Proofs
def emp : ByteArray := ⟨#[]⟩
def inB (lo hi k : ByteArray) : Bool := !(blt k lo) && cond (hi.toList == emp.toList) true (blt k hi)
theorem specIn_ok {m : Nat} (hm : 1 ≤ m) (k lo hi : ByteArray) (K : T → An) : spec_l3In m (.s k) (.s lo) (.s hi) K = K (.b (inB lo hi k)) := by
  obtain ⟨m, rfl⟩ : ∃ m', m = m' + 1 := ⟨m - 1, by omega⟩
  simp only [spec_l3In, T.str_s, inB, blt, show (⟨#[]⟩ : ByteArray) = emp from rfl]
  cases Op.bytesLess k.toList lo.toList <;> cases hi.toList == emp.toList <;> rfl
theorem implIn_ok {m : Nat} (hm : 1 ≤ m) (k lo hi : ByteArray) (K : T → An) : impl_isBetween m (.s k) (.s lo) (.s hi) K = K (.b (inB lo hi k)) := by
  obtain ⟨m, rfl⟩ : ∃ m', m = m' + 1 := ⟨m - 1, by omega⟩
  simp only [impl_isBetween, T.str_s, inB, blt, show (⟨#[]⟩ : ByteArray) = emp from rfl]
  cases Op.bytesLess k.toList lo.toList <;> cases hi.toList == emp.toList <;> rfl
def twl (p : KV → Bool) : List KV → Nat
  | [] => 0
  | x :: l => cond (p x) (twl p l + 1) 0
theorem twl_le (p : KV → Bool) : ∀ l, twl p l ≤ l.length
  | [] => Nat.le_refl _
  | x :: l => by
    have := twl_le p l
    unfold twl
    cases p x <;> simp <;> omega
theorem specPB0 (m : Nat) (lo hi : ByteArray) (x6 x7 x8 x9 : T) (a b : List (List T)) : ∀ (post pre : List KV), pre.length + post.length ≤ 1048576 → ∀ n, post.length < n → ∀ k0,
    spec_ProveBetween_L0_0 m n (.l ((pre ++ post).map rK)) (.s lo) (.s hi) (.i 0) (.i 0) (.i pre.length) x6 x7 x8 x9 (.l a) (.l b) k0 =
      k0 (.l ((pre ++ post).map rK)) (.s lo) (.s hi) (.i 0) (.i 0) (.i ((pre.length + twl (fun x => blt x.1 lo) post : Nat) : Int)) x6 x7 x8 x9 (.l a) (.l b)
  | [], pre, hs, n, hn, k0 => by
    obtain ⟨n, rfl⟩ : ∃ m', n = m' + 1 := ⟨n - 1, by omega⟩
    simp only [spec_ProveBetween_L0_0, T.int_i, T.rows_l]
    rw [cond_f (by simp)]
    rfl
  | x :: post, pre, hs, n, hn, k0 => by
    obtain ⟨n, rfl⟩ : ∃ m', n = m' + 1 := ⟨n - 1, by omega⟩
    simp only [List.length_cons] at hs hn
    have ih := specPB0 m lo hi x6 x7 x8 x9 a b post (pre ++ [x]) (by simp; omega) n (by omega) k0
    rw [len_snoc, List.append_assoc, List.singleton_append] at ih
    simp only [spec_ProveBetween_L0_0, T.int_i, T.rows_l, ixK, ix_nx pre (by omega), rK0, T.str_s, T.bool_b]
    rw [cond_t (by simp <;> omega), dec_t (by simp <;> omega)]
    unfold twl
    cases h : blt x.1 lo with
    | false =>
      rw [cond_f (show Op.bytesLess x.1.toList lo.toList = false from h)]; rfl
    | true =>
      rw [cond_t (show Op.bytesLess x.1.toList lo.toList = true from h)]
      refine ih.trans ?_
      congr 2
      simp only [cond_true, List.length_append, List.length_singleton]
      omega
theorem specPB1 (m : Nat) (hm : 1 ≤ m) (lo hi : ByteArray) (x5 x7 x8 x9 x10 : T) (a b : List (List T)) : ∀ (post pre : List KV), pre.length + post.length ≤ 1048576 → ∀ n, post.length < n → ∀ k0,
    spec_ProveBetween_L1_0 m n (.l ((pre ++ post).map rK)) (.s lo) (.s hi) (.i 0) (.i 0) x5 (.i pre.length) x7 x8 x9 x10 (.l a) (.l b) k0 =
      k0 (.l ((pre ++ post).map rK)) (.i 0) (.i 0) x5 (.i ((pre.length + twl (fun x => inB lo hi x.1) post : Nat) : Int)) x7 x8 x9 x10 (.l a) (.l b)
  | [], pre, hs, n, hn, k0 => by
    obtain ⟨n, rfl⟩ : ∃ m', n = m' + 1 := ⟨n - 1, by omega⟩
    simp only [spec_ProveBetween_L1_0, T.int_i, T.rows_l]
    rw [cond_f (by simp)]
    rfl
  | x :: post, pre, hs, n, hn, k0 => by
    obtain ⟨n, rfl⟩ : ∃ m', n = m' + 1 := ⟨n - 1, by omega⟩
    simp only [List.length_cons] at hs hn
    have ih := specPB1 m hm lo hi x5 x7 x8 x9 x10 a b post (pre ++ [x]) (by simp; omega) n (by omega) k0
    rw [len_snoc, List.append_assoc, List.singleton_append] at ih
    simp only [spec_ProveBetween_L1_0, T.int_i, T.rows_l, ixK, ix_nx pre (by omega), rK0]
    rw [cond_t (by simp <;> omega), dec_t (by simp <;> omega), specIn_ok hm]
    simp only [T.bool_b]
    unfold twl
    cases h : inB lo hi x.1 with
    | false => rfl
    | true =>
      refine ih.trans ?_
      congr 2
      simp only [cond_true, List.length_append, List.length_singleton]
      omega
def itR (l : List KV) (i : Nat) : List T := [.s (l.getD i (emp, emp)).1, .s (l.getD i (emp, emp)).2, .l (sr (path 60 l i))]
def itemsR (l : List KV) : Nat → Nat → List (List T)
  | _, 0 => []
  | i, c + 1 => itR l i :: itemsR l (i + 1) c
theorem itemsR_len (l : List KV) : ∀ c i, (itemsR l i c).length = c
  | 0, _ => rfl
  | c + 1, i => by simp [itemsR, itemsR_len l c]
theorem getK (l : List KV) (i : Nat) (h : i < l.length) : ((l.map rK).getD i []) = rK (l.getD i (emp, emp)) := by
  simp [List.getD, h]
theorem specPB2 (m : Nat) (hm : 20000600 ≤ m) (l : List KV) (hl : l.length ≤ 60) (ho : OkP l) (x5 x6 x7 x8 : T) (a : List (List T)) (t : Nat) (ht : t ≤ l.length) : ∀ (c i : Nat) (acc : List (List T)), i + c = t → acc.length + c ≤ 1000 → ∀ n, c < n → ∀ k0,
    spec_ProveBetween_L2_0 m n (.l (l.map rK)) (.i 0) (.i 0) (.i t) (.i i) x5 x6 x7 x8 (.l a) (.l acc) k0 = k0 (.i 0) (.i 0) x5 x6 x7 x8 (.l a) (.l (acc ++ itemsR l i c))
  | 0, i, acc, hi, ha, n, hn, k0 => by
    obtain ⟨n, rfl⟩ : ∃ m', n = m' + 1 := ⟨n - 1, by omega⟩
    simp only [spec_ProveBetween_L2_0, T.int_i, T.rows_l]
    rw [dec_f (by omega)]
    simp only [itemsR, List.append_nil]
    rfl
  | c + 1, i, acc, hi, ha, n, hn, k0 => by
    obtain ⟨n, rfl⟩ : ∃ m', n = m' + 1 := ⟨n - 1, by omega⟩
    have ih := specPB2 m hm l hl ho x5 x6 x7 x8 a t ht c (i + 1) (acc ++ [itR l i]) (by omega) (by simp; omega) n (by omega) k0
    have ew : IntKind.i64.wrap ((i : Int) + 1) = ((i + 1 : Nat) : Int) := by rw [wrap_i64 (by omega) (by omega)]; omega
    simp only [spec_ProveBetween_L2_0, T.int_i, T.rows_l, ew, Int.toNat_natCast]
    rw [dec_t (by omega), dec_t (by simp; omega), specPath_ok 60 l i m (by omega) hl ho (by omega) (by omega) (by omega)]
    rw [dec_t (by unfold maxRow; omega)]
    rw [getK l i (by omega), rK0, rK1]
    refine ih.trans ?_
    rw [List.append_assoc]
    rfl
theorem implPB0 (m : Nat) (lo hi : ByteArray) (x5 x6 : T) (b : List (List T)) : ∀ (post pre : List KV), pre.length + post.length ≤ 1048576 → ∀ n, post.length < n → ∀ k0,
    impl_ProveBetween_L0_0 m n (.l ((pre ++ post).map rK)) (.s lo) (.s hi) (.i 0) (.i pre.length) x5 x6 (.l b) k0 =
      k0 (.l ((pre ++ post).map rK)) (.s lo) (.s hi) (.i 0) (.i ((pre.length + twl (fun x => blt x.1 lo) post : Nat) : Int)) x5 x6 (.l b)
  | [], pre, hs, n, hn, k0 => by
    obtain ⟨n, rfl⟩ : ∃ m', n = m' + 1 := ⟨n - 1, by omega⟩
    simp only [impl_ProveBetween_L0_0, T.int_i, T.rows_l]
    rw [cond_f (by simp)]
    rfl
  | x :: post, pre, hs, n, hn, k0 => by
    obtain ⟨n, rfl⟩ : ∃ m', n = m' + 1 := ⟨n - 1, by omega⟩
    simp only [List.length_cons] at hs hn
    have ih := implPB0 m lo hi x5 x6 b post (pre ++ [x]) (by simp; omega) n (by omega) k0
    rw [len_snoc, List.append_assoc, List.singleton_append] at ih
    simp only [impl_ProveBetween_L0_0, T.int_i, T.rows_l, ixK, ix_nx pre (by omega), rK0, T.str_s, T.bool_b]
    rw [cond_t (by simp <;> omega), dec_t (by simp <;> omega)]
    unfold twl
    cases h : blt x.1 lo with
    | false =>
      rw [cond_f (show Op.bytesLess x.1.toList lo.toList = false from h)]; rfl
    | true =>
      rw [cond_t (show Op.bytesLess x.1.toList lo.toList = true from h)]
      refine ih.trans ?_
      congr 2
      simp only [cond_true, List.length_append, List.length_singleton]
      omega
theorem implPB1 (m : Nat) (hm : 1 ≤ m) (lo hi : ByteArray) (x4 x6 x7 : T) (b : List (List T)) : ∀ (post pre : List KV), pre.length + post.length ≤ 1048576 → ∀ n, post.length < n → ∀ k0,
    impl_ProveBetween_L1_0 m n (.l ((pre ++ post).map rK)) (.s lo) (.s hi) (.i 0) x4 (.i pre.length) x6 x7 (.l b) k0 =
      k0 (.l ((pre ++ post).map rK)) (.i 0) x4 (.i ((pre.length + twl (fun x => inB lo hi x.1) post : Nat) : Int)) x6 x7 (.l b)
  | [], pre, hs, n, hn, k0 => by
    obtain ⟨n, rfl⟩ : ∃ m', n = m' + 1 := ⟨n - 1, by omega⟩
    simp only [impl_ProveBetween_L1_0, T.int_i, T.rows_l]
    rw [cond_f (by simp)]
    rfl
  | x :: post, pre, hs, n, hn, k0 => by
    obtain ⟨n, rfl⟩ : ∃ m', n = m' + 1 := ⟨n - 1, by omega⟩
    simp only [List.length_cons] at hs hn
    have ih := implPB1 m hm lo hi x4 x6 x7 b post (pre ++ [x]) (by simp; omega) n (by omega) k0
    rw [len_snoc, List.append_assoc, List.singleton_append] at ih
    simp only [impl_ProveBetween_L1_0, T.int_i, T.rows_l, ixK, ix_nx pre (by omega), rK0]
    rw [cond_t (by simp <;> omega), dec_t (by simp <;> omega), implIn_ok hm]
    simp only [T.bool_b]
    unfold twl
    cases h : inB lo hi x.1 with
    | false => rfl
    | true =>
      refine ih.trans ?_
      congr 2
      simp only [cond_true, List.length_append, List.length_singleton]
      omega
theorem implPB2 (m : Nat) (hm : 600 ≤ m) (l : List KV) (hl : l.length ≤ 60) (ho : OkP l) (x2 x6 x7 x8 x9 : T) (a : List (List T)) (t : Nat) (ht : t ≤ l.length) : ∀ (c i : Nat) (acc : List (List T)), i + c = t → acc.length + c ≤ 1000 → ∀ n, c < n → ∀ k0,
    impl_ProveBetween_L2_0 m n (.l (l.map rK)) (.i 0) x2 (.i t) (.i 0) (.i i) x6 x7 x8 x9 (.l a) (.l acc) k0 = k0 (.i 0) x2 (.i 0) x6 x7 x8 x9 (.l a) (.l (acc ++ itemsR l i c))
  | 0, i, acc, hi, ha, n, hn, k0 => by
    obtain ⟨n, rfl⟩ : ∃ m', n = m' + 1 := ⟨n - 1, by omega⟩
    simp only [impl_ProveBetween_L2_0, T.int_i, T.rows_l]
    rw [dec_f (by omega)]
    simp only [itemsR, List.append_nil]
    rfl
  | c + 1, i, acc, hi, ha, n, hn, k0 => by
    obtain ⟨n, rfl⟩ : ∃ m', n = m' + 1 := ⟨n - 1, by omega⟩
    have ih := implPB2 m hm l hl ho x2 x6 x7 x8 x9 a t ht c (i + 1) (acc ++ [itR l i]) (by omega) (by simp; omega) n (by omega) k0
    have ew : IntKind.i64.wrap ((i : Int) + 1) = ((i + 1 : Nat) : Int) := by rw [wrap_i64 (by omega) (by omega)]; omega
    simp only [impl_ProveBetween_L2_0, T.int_i, T.rows_l, ew, Int.toNat_natCast]
    rw [dec_t (by omega), dec_t (by simp; omega), implPath_ok 60 l i m (by omega) hl ho (by omega) (by omega) (by omega)]
    rw [dec_t (by unfold maxRow; omega)]
    rw [getK l i (by omega), rK0, rK1]
    refine ih.trans ?_
    rw [List.append_assoc]
    rfl
/-! what is proved of pairs -/
def frP (l : List KV) (lo : ByteArray) : Nat := twl (fun x => blt x.1 lo) l
def toP (l : List KV) (lo hi : ByteArray) : Nat := frP l lo + twl (fun x => inB lo hi x.1) (l.drop (frP l lo))
def fr1 (l : List KV) (lo : ByteArray) : Nat := frP l lo - 1
def to1 (l : List KV) (lo hi : ByteArray) : Nat := min (toP l lo hi + 1) l.length
def prvN (l : List KV) : Nat := if pairsOkP l then l.length else 0
def prvF (l : List KV) (lo hi : ByteArray) : Nat := if pairsOkP l ∧ fr1 l lo < to1 l lo hi then fr1 l lo else 0
def prvI (l : List KV) (lo hi : ByteArray) : List (List T) := if pairsOkP l then itemsR l (fr1 l lo) (to1 l lo hi - fr1 l lo) else []
theorem frP_le (l : List KV) (lo : ByteArray) : frP l lo ≤ l.length := twl_le _ _
theorem toP_le (l : List KV) (lo hi : ByteArray) : frP l lo ≤ toP l lo hi ∧ toP l lo hi ≤ l.length := by
  have h1 := frP_le l lo
  have h2 := twl_le (fun x => inB lo hi x.1) (l.drop (frP l lo))
  simp only [List.length_drop] at h2
  unfold toP
  omega
theorem OkP.key {l : List KV} (h : OkP l) : ∀ p ∈ l, p.1.size ≤ 1048576 := fun p hp => by have := h p hp; omega
theorem specPrv_ok {m : Nat} (hm : 22000000 ≤ m) (l : List KV) (lo hi : ByteArray) (ho : OkP l) (hl : l.length ≤ 1048576) (K : T → T → T → An) :
    spec_ProveBetween m (.l (l.map rK)) (.s lo) (.s hi) K = K (.i (prvN l)) (.i (prvF l lo hi)) (.l (prvI l lo hi)) := by
  obtain ⟨m, rfl⟩ : ∃ m', m = m' + 1 := ⟨m - 1, by omega⟩
  simp only [spec_ProveBetween, T.rows_l]
  rw [specPairs_ok (by omega) l ho.key hl]
  simp only [T.bool_b]
  unfold prvN prvF prvI
  cases hp : pairsOkP l with
  | false => rfl
  | true =>
    have h60 : l.length ≤ 60 := by unfold pairsOkP at hp; simp only [Bool.and_eq_true, decide_eq_true_eq] at hp; exact hp.2
    have t1 := toP_le l lo hi
    have e1 : l.take (frP l lo) ++ l.drop (frP l lo) = l := List.take_append_drop _ _
    have e2 : (l.take (frP l lo)).length = frP l lo := by simp; omega
    have q0 := fun K => specPB0 m lo hi (.i 0) (.i 0) (.i l.length) (.i 0) [] [] l [] (by simp; omega) m (by omega) K
    have q1 := fun K => specPB1 m (by omega) lo hi (.i (frP l lo)) (.i 0) (.i 0) (.i l.length) (.i 0) [] [] (l.drop (frP l lo)) (l.take (frP l lo)) (by simp; omega) m (by simp; omega) K
    rw [e1, e2] at q1
    simp only [List.nil_append, List.length_nil, Nat.zero_add] at q0
    simp only [Bool.not_true, cond_false, List.length_map]
    refine (q0 _).trans ?_
    refine (q1 _).trans ?_
    simp only [jn1, T.int_i, T.rows_l, List.length_map, show twl (fun x => blt x.1 lo) l = frP l lo from rfl, show frP l lo + twl (fun x => inB lo hi x.1) (l.drop (frP l lo)) = toP l lo hi from rfl]
    have a1 : (cond (decide ((frP l lo : Int) > 0)) (T.i (IntKind.i64.wrap ((frP l lo : Int) - 1))) (T.i (frP l lo))) = T.i (fr1 l lo : Nat) := by
      unfold fr1
      by_cases h : 0 < frP l lo
      · rw [dec_t (by omega), wrap_i64 (by omega) (by omega)]; congr 1; omega
      · rw [dec_f (by omega)]; congr 1; omega
    have a2 : (cond (decide ((toP l lo hi : Int) < (l.length : Int))) (T.i (IntKind.i64.wrap ((toP l lo hi : Int) + 1))) (T.i (toP l lo hi))) = T.i (to1 l lo hi : Nat) := by
      unfold to1
      by_cases h : toP l lo hi < l.length
      · rw [dec_t (by omega), wrap_i64 (by omega) (by omega)]; congr 1; omega
      · rw [dec_f (by omega)]; congr 1; omega
    rw [a1, a2]
    simp only [T.int_i]
    have a3 : (cond (decide ((fr1 l lo : Int) < (to1 l lo hi : Int))) (T.i (fr1 l lo : Nat)) (T.i 0)) = T.i ((if fr1 l lo < to1 l lo hi then fr1 l lo else 0 : Nat) : Int) := by
      by_cases h : fr1 l lo < to1 l lo hi
      · rw [dec_t (by omega), if_pos h]
      · rw [dec_f (by omega), if_neg h]; rfl
    rw [a3]
    have hf : fr1 l lo ≤ to1 l lo hi := by unfold fr1 to1; omega
    have ht : to1 l lo hi ≤ l.length := by unfold to1; omega
    refine (specPB2 m (by omega) l h60 ho _ _ _ _ _ _ ht (to1 l lo hi - fr1 l lo) (fr1 l lo) [] (by omega) (by simp; omega) m (by omega) _).trans ?_
    simp
theorem implPrv_ok {m : Nat} (hm : 2000000 ≤ m) (l : List KV) (lo hi : ByteArray) (ho : OkP l) (hl : l.length ≤ 1048576) (K : T → T → T → An) :
    impl_ProveBetween m (.l (l.map rK)) (.s lo) (.s hi) K = K (.i (prvN l)) (.i (prvF l lo hi)) (.l (prvI l lo hi)) := by
  obtain ⟨m, rfl⟩ : ∃ m', m = m' + 1 := ⟨m - 1, by omega⟩
  simp only [impl_ProveBetween, T.rows_l]
  rw [implPairs_ok (by omega) l ho.key hl]
  simp only [T.bool_b]
  unfold prvN prvF prvI
  cases hp : pairsOkP l with
  | false => rfl
  | true =>
    have h60 : l.length ≤ 60 := by unfold pairsOkP at hp; simp only [Bool.and_eq_true, decide_eq_true_eq] at hp; exact hp.2
    have t1 := toP_le l lo hi
    have e1 : l.take (frP l lo) ++ l.drop (frP l lo) = l := List.take_append_drop _ _
    have e2 : (l.take (frP l lo)).length = frP l lo := by simp; omega
    have q0 := fun K => implPB0 m lo hi (.i 0) (.i 0) [] l [] (by simp; omega) m (by omega) K
    have q1 := fun K => implPB1 m (by omega) lo hi (.i (frP l lo)) (.i 0) (.i 0) [] (l.drop (frP l lo)) (l.take (frP l lo)) (by simp; omega) m (by simp; omega) K
    rw [e1, e2] at q1
    simp only [List.nil_append, List.length_nil, Nat.zero_add] at q0
    simp only [Bool.not_true, cond_false, List.length_map]
    refine (q0 _).trans ?_
    refine (q1 _).trans ?_
    simp only [T.int_i, T.rows_l, List.length_map, show twl (fun x => blt x.1 lo) l = frP l lo from rfl, show frP l lo + twl (fun x => inB lo hi x.1) (l.drop (frP l lo)) = toP l lo hi from rfl]
    have a1 : maxI (IntKind.i64.wrap ((frP l lo : Int) - 1)) 0 = (fr1 l lo : Nat) := by
      rw [wrap_i64 (by omega) (by omega)]; unfold maxI fr1; split <;> omega
    have a2 : minI (IntKind.i64.wrap ((toP l lo hi : Int) + 1)) (l.length : Int) = (to1 l lo hi : Nat) := by
      rw [wrap_i64 (by omega) (by omega)]; unfold minI to1; split <;> omega
    rw [a1, a2]
    have hf : fr1 l lo ≤ to1 l lo hi := by unfold fr1 to1; omega
    have ht : to1 l lo hi ≤ l.length := by unfold to1; omega
    refine (implPB2 m (by omega) l h60 ho _ _ _ _ _ _ _ ht (to1 l lo hi - fr1 l lo) (fr1 l lo) [] (by omega) (by simp; omega) m (by omega) _).trans ?_
    simp only [List.nil_append, itemsR_len, T.rows_l]
    by_cases h : fr1 l lo < to1 l lo hi
    · rw [dec_t (by omega)]; simp [h]
    · rw [dec_f (by omega)]; simp [h]
end Go.Proofs.Ytnddpgeeoepkkaa

namespace Go.Proofs.Ytnddpgeeoepkkaa
open Go Go.E Go.Proofs
theorem wr1 {k : Nat} (h : k ≤ 4500000) : IntKind.i64.wrap ((k : Int) + 1) = ((k + 1 : Nat) : Int) := by
  rw [wrap_i64 (by omega) (by omega)]; omega
/-- the digits of a number, ahead of a text -/
def digs : Nat → Nat → ByteArray → ByteArray
  | 0, _, acc => acc
  | n + 1, k, acc => if k = 0 then acc else digs n (k / 10) (rowsBytes [[(T.i (IntKind.u8.wrap (IntKind.i64.wrap (48 + (Int.tmod (k : Int) 10)))))]] ++ acc)
theorem digs_size : ∀ (n k : Nat) (acc : ByteArray), (digs n k acc).size ≤ acc.size + k
  | 0, k, acc => by simp [digs]
  | n + 1, k, acc => by
    unfold digs
    split
    · omega
    · have := digs_size n (k / 10) (rowsBytes [[(T.i (IntKind.u8.wrap (IntKind.i64.wrap (48 + (Int.tmod (k : Int) 10)))))]] ++ acc)
      rw [ba_app_size] at this
      have e : (rowsBytes [[(T.i (IntKind.u8.wrap (IntKind.i64.wrap (48 + (Int.tmod (k : Int) 10)))))]]).size = 1 := rfl
      omega
theorem text_loop (m : Nat) : ∀ (n k : Nat) (acc : ByteArray), k < n → acc.size + k ≤ 4611686018427387904 → ∀ K, laws_markText_L0_0 m n (.i k) (.s acc) K = K (.s (digs n k acc))
  | 0, k, acc, h, hs, K => by omega
  | n + 1, k, acc, h, hs, K => by
    unfold digs
    simp only [laws_markText_L0_0, T.int_i, T.str_s]
    by_cases hk : k = 0
    · subst hk
      rw [dec_f (by omega), if_pos rfl]
    · have e : (rowsBytes [[(T.i (IntKind.u8.wrap (IntKind.i64.wrap (48 + (Int.tmod (k : Int) 10)))))]]).size = 1 := rfl
      rw [dec_t (by omega), dec_t (by rw [e]; omega), if_neg hk]
      have e2 : Int.tdiv (k : Int) 10 = ((k / 10 : Nat) : Int) := rfl
      rw [e2, wrap_i64 (by omega) (by omega)]
      exact text_loop m n (k / 10) _ (by omega) (by rw [ba_app_size, e]; omega) K
def mtB (m k : Nat) : ByteArray := (⟨#[109]⟩ : ByteArray) ++ digs (m - 1) k ⟨#[]⟩
theorem markText_ok {m : Nat} (hm : 4500010 ≤ m) {k : Nat} (h0 : 0 < k) (hk : k ≤ 4500000) (K : T → An) : laws_markText m (.i k) K = K (.s (mtB m k)) := by
  obtain ⟨m, rfl⟩ : ∃ m', m = m' + 1 := ⟨m - 1, by omega⟩
  have hz := digs_size m k ⟨#[]⟩
  have e0 : (⟨#[]⟩ : ByteArray).size = 0 := rfl
  have e1 : (⟨#[109]⟩ : ByteArray).size = 1 := rfl
  simp only [laws_markText, T.int_i]
  rw [dec_f (by omega), text_loop m m k _ (by omega) (by rw [e0]; omega)]
  simp only [T.str_s]
  rw [dec_t (by rw [e1]; omega)]
  rfl
def shString : List (List T) → Prop
  | [] => True
  | r :: rs => (r.length = 1) ∧ shString rs
def ctString : List (List T) → Nat
  | [] => 0
  | r :: rs => (1) + ctString rs
def mkString (m : Nat) : Nat → List (List T) → List (List T)
  | _, [] => []
  | k, r :: rs => [.s (mtB m k)] :: mkString m ((k + 1)) rs
theorem mkString_len (m : Nat) : ∀ rs k, (mkString m k rs).length = rs.length
  | [], k => rfl
  | r :: rs, k => by simp [mkString, mkString_len m rs]
theorem markStringS_loop (m : Nat) (hm : 4500022 ≤ m) : ∀ (post pre : List (List T)) (k : Nat), shString post → 0 < k → k + ctString post ≤ 4500000 → pre.length + post.length ≤ 1048576 → ∀ n, post.length < n → ∀ k0,
    laws_markStringS_L0_0 m n (.i k) (.i pre.length) (.l (pre ++ post)) k0 = k0 (.i ((k + ctString post : Nat) : Int)) (.l (pre ++ mkString m k post))
  | [], pre, k, h, hk, hb, hs, n, hn, k0 => by
    obtain ⟨n, rfl⟩ : ∃ m', n = m' + 1 := ⟨n - 1, by omega⟩
    simp only [laws_markStringS_L0_0, T.int_i, T.rows_l]
    rw [dec_f (by simp)]
    rfl
  | x :: post, pre, k, h, hk, hb, hs, n, hn, k0 => by
    obtain ⟨n, rfl⟩ : ∃ m', n = m' + 1 := ⟨n - 1, by omega⟩
    simp only [List.length_cons] at hs hn
    obtain ⟨hx, hp⟩ := h
    have hz := hx
    match x, hz with
    | [c0], _ =>
    simp only [ctString, List.getD_cons_zero, List.getD_cons_succ] at hb
    have ih := markStringS_loop m hm post (pre ++ [[.s (mtB m k)]]) ((k + 1)) hp (by omega) (by omega) (by simp; omega) n (by omega) k0
    rw [len_snoc, List.append_assoc, List.singleton_append, List.append_assoc, List.singleton_append] at ih
    simp only [laws_markStringS_L0_0, T.int_i, T.rows_l, ix_row, set_row, List.set_cons_zero, List.set_cons_succ, List.tail_cons, List.headD_cons, List.getD_cons_zero, List.getD_cons_succ, ix_nx pre (by omega), wr1 (k := k) (by omega)]
    rw [dec_t (by simp <;> omega)]
    repeat (first | rw [dec_t (by simp <;> omega)] | rw [markText_ok (by omega) (by omega) (by omega)])
    refine ih.trans ?_
    have e : (k + 1) + ctString post = k + (ctString ([c0] :: post)) := by simp only [ctString, List.getD_cons_zero, List.getD_cons_succ]; omega
    rw [e]
    rfl
theorem markStringS_ok {m : Nat} (hm : 4500023 ≤ m) (rows : List (List T)) (h : shString rows) (hl : rows.length ≤ 1048576) (k : Nat) (hk : 0 < k) (hs : k + ctString rows ≤ 4500000) (K : T → T → An) :
    laws_markStringS m (.l rows) (.i k) K = K (.i ((k + ctString rows : Nat) : Int)) (.l (mkString (m - 1) k rows)) := by
  obtain ⟨m, rfl⟩ : ∃ m', m = m' + 1 := ⟨m - 1, by omega⟩
  simp only [laws_markStringS, T.rows_l]
  exact (markStringS_loop m (by omega) rows [] k h hk hs (by simpa using hl) m (by omega) _)
theorem heldStringS_loop (m : Nat) (hm : 4500022 ≤ m) (l : List (List T)) : ∀ (post pre : List (List T)) (k : Nat), l = pre ++ mkString m k post → shString post → 0 < k → k + ctString post ≤ 4500000 → pre.length + post.length ≤ 1048576 → ∀ n, post.length < n → ∀ k0 k1,
    laws_heldStringS_L0_0 m n (.l l) (.i k) (.i pre.length) k0 k1 = k1 (.i ((k + ctString post : Nat) : Int))
  | [], pre, k, he, h, hk, hb, hs, n, hn, k0, k1 => by
    obtain ⟨n, rfl⟩ : ∃ m', n = m' + 1 := ⟨n - 1, by omega⟩
    subst he
    simp only [laws_heldStringS_L0_0, T.int_i, T.rows_l]
    rw [dec_f (by simp [mkString])]
    rfl
  | x :: post, pre, k, he, h, hk, hb, hs, n, hn, k0, k1 => by
    obtain ⟨n, rfl⟩ : ∃ m', n = m' + 1 := ⟨n - 1, by omega⟩
    simp only [List.length_cons] at hs hn
    obtain ⟨hx, hp⟩ := h
    have hz := hx
    match x, hz with
    | [c0], _ =>
    simp only [ctString, List.getD_cons_zero, List.getD_cons_succ] at hb
    have ih := heldStringS_loop m hm l post (pre ++ [[.s (mtB m k)]]) ((k + 1)) (by rw [he]; simp [mkString]) hp (by omega) (by omega) (by simp; omega) n (by omega) k0 k1
    rw [len_snoc] at ih
    subst he
    have hml := mkString_len m post ((k + 1))
    simp only [laws_heldStringS_L0_0, T.int_i, T.rows_l, T.str_s, T.bool_b, mkString, ix_row, List.drop_succ_cons, List.drop_zero, List.getD_cons_zero, List.getD_cons_succ, ix_nx pre (by omega), wr1 (k := k) (by omega), beq_toList_self, bne_self_eq_false, beq_self_eq_true, Bool.not_true, cond_false]
    rw [dec_t (by simp <;> omega)]
    repeat (first | rw [dec_t (by simp <;> omega)] | rw [markText_ok (by omega) (by omega) (by omega)] | rw [dec_f (by omega)] | simp only [T.int_i, T.rows_l, T.str_s, T.bool_b, mkString, ix_row, List.drop_succ_cons, List.drop_zero, List.getD_cons_zero, List.getD_cons_succ, ix_nx pre (by omega), wr1 (k := k) (by omega), beq_toList_self, bne_self_eq_false, beq_self_eq_true, Bool.not_true, cond_false])
    refine ih.trans ?_
    have e : (k + 1) + ctString post = k + (ctString ([c0] :: post)) := by simp only [ctString, List.getD_cons_zero, List.getD_cons_succ]; omega
    rw [e]
theorem heldStringS_ok {m : Nat} (hm : 4500023 ≤ m) (rows : List (List T)) (h : shString rows) (hl : rows.length ≤ 1048576) (k : Nat) (hk : 0 < k) (hs : k + ctString rows ≤ 4500000) (K : T → An) :
    laws_heldStringS m (.l (mkString (m - 1) k rows)) (.i k) K = K (.i ((k + ctString rows : Nat) : Int)) := by
  obtain ⟨m, rfl⟩ : ∃ m', m = m' + 1 := ⟨m - 1, by omega⟩
  simp only [laws_heldStringS, T.rows_l]
  exact heldStringS_loop m (by omega) _ rows [] k rfl h hk hs (by simpa using hl) m (by omega) _ _
theorem eqvStringS_loop (m : Nat) (hm : 4500022 ≤ m) : ∀ (post pre : List (List T)), shString post → pre.length + post.length ≤ 1048576 → ∀ n, post.length < n → ∀ k0 k1, laws_eqStringS_L0_0 m n (.l (pre ++ post)) (.l (pre ++ post)) (.i pre.length) k0 k1 = k1
  | [], pre, h, hs, n, hn, k0, k1 => by
    obtain ⟨n, rfl⟩ : ∃ m', n = m' + 1 := ⟨n - 1, by omega⟩
    simp only [laws_eqStringS_L0_0, T.int_i, T.rows_l]
    rw [dec_f (by simp)]
  | x :: post, pre, h, hs, n, hn, k0, k1 => by
    obtain ⟨n, rfl⟩ : ∃ m', n = m' + 1 := ⟨n - 1, by omega⟩
    simp only [List.length_cons] at hs hn
    obtain ⟨hx, hp⟩ := h
    have hz := hx
    have ih := eqvStringS_loop m hm post (pre ++ [x]) hp (by simp; omega) n (by omega) k0 k1
    rw [len_snoc, List.append_assoc, List.singleton_append] at ih
    simp only [laws_eqStringS_L0_0, ix_row, ix_nx pre (by omega), T.int_i, T.rows_l, T.str_s, T.bool_b, beq_toList_self, bne_self_eq_false, beq_self_eq_true, Bool.not_true, cond_false]
    rw [dec_t (by simp <;> omega), dec_t (by simp <;> omega), dec_t (by simp <;> omega)]
    exact ih
theorem eqvStringS_ok {m : Nat} (hm : 4500023 ≤ m) (rows : List (List T)) (h : shString rows) (hl : rows.length ≤ 1048576) (k : T → An) : laws_eqStringS m (.l rows) (.l rows) k = k (.b true) := by
  obtain ⟨m, rfl⟩ : ∃ m', m = m' + 1 := ⟨m - 1, by omega⟩
  simp only [laws_eqStringS, T.rows_l, T.int_i, bne_self_eq_false, cond_false]
  exact eqvStringS_loop m (by omega) rows [] h (by simpa using hl) m (by omega) _ _
theorem shString_of : ∀ {rows : List (List T)}, (∀ r ∈ rows, WtRow esString r) → rowsBulk rows ≤ 1048576 → shString rows ∧ ctString rows ≤ rowsBulk rows
  | [], _, _ => ⟨trivial, Nat.le_refl _⟩
  | x :: rows, h, hb => by
    have hx := h x (by simp)
    simp only [esString, WtRow, WtT] at hx
    obtain ⟨_, _, rfl, ⟨a0, rfl, -⟩, rfl⟩ := hx
    simp only [rowsBulk, rowBulk, tbulk] at hb
    have ih := shString_of (rows := rows) (fun r hr => h r (by simp [hr])) (by omega)
    refine ⟨⟨rfl, ih.1⟩, ?_⟩
    simp only [ctString, rowsBulk, rowBulk, tbulk, List.getD_cons_zero, List.getD_cons_succ, T.rows_l]
    omega
def shPair : List (List T) → Prop
  | [] => True
  | r :: rs => (r.length = 2) ∧ shPair rs
def ctPair : List (List T) → Nat
  | [] => 0
  | r :: rs => (2) + ctPair rs
def mkPair (m : Nat) : Nat → List (List T) → List (List T)
  | _, [] => []
  | k, r :: rs => [.s (mtB m k), .s (mtB m (k + 1))] :: mkPair m (((k + 1) + 1)) rs
theorem mkPair_len (m : Nat) : ∀ rs k, (mkPair m k rs).length = rs.length
  | [], k => rfl
  | r :: rs, k => by simp [mkPair, mkPair_len m rs]
theorem markPairS_loop (m : Nat) (hm : 4500022 ≤ m) : ∀ (post pre : List (List T)) (k : Nat), shPair post → 0 < k → k + ctPair post ≤ 4500000 → pre.length + post.length ≤ 1048576 → ∀ n, post.length < n → ∀ k0,
    laws_markPairS_L0_0 m n (.i k) (.i pre.length) (.l (pre ++ post)) k0 = k0 (.i ((k + ctPair post : Nat) : Int)) (.l (pre ++ mkPair m k post))
  | [], pre, k, h, hk, hb, hs, n, hn, k0 => by
    obtain ⟨n, rfl⟩ : ∃ m', n = m' + 1 := ⟨n - 1, by omega⟩
    simp only [laws_markPairS_L0_0, T.int_i, T.rows_l]
    rw [dec_f (by simp)]
    rfl
  | x :: post, pre, k, h, hk, hb, hs, n, hn, k0 => by
    obtain ⟨n, rfl⟩ : ∃ m', n = m' + 1 := ⟨n - 1, by omega⟩
    simp only [List.length_cons] at hs hn
    obtain ⟨hx, hp⟩ := h
    have hz := hx
    match x, hz with
    | [c0, c1], _ =>
    simp only [ctPair, List.getD_cons_zero, List.getD_cons_succ] at hb
    have ih := markPairS_loop m hm post (pre ++ [[.s (mtB m k), .s (mtB m (k + 1))]]) (((k + 1) + 1)) hp (by omega) (by omega) (by simp; omega) n (by omega) k0
    rw [len_snoc, List.append_assoc, List.singleton_append, List.append_assoc, List.singleton_append] at ih
    simp only [laws_markPairS_L0_0, T.int_i, T.rows_l, ix_row, set_row, List.set_cons_zero, List.set_cons_succ, List.tail_cons, List.headD_cons, List.getD_cons_zero, List.getD_cons_succ, ix_nx pre (by omega), wr1 (k := (k + 1)) (by omega), wr1 (k := k) (by omega)]
    rw [dec_t (by simp <;> omega)]
    repeat (first | rw [dec_t (by simp <;> omega)] | rw [markText_ok (by omega) (by omega) (by omega)])
    refine ih.trans ?_
    have e : ((k + 1) + 1) + ctPair post = k + (ctPair ([c0, c1] :: post)) := by simp only [ctPair, List.getD_cons_zero, List.getD_cons_succ]; omega
    rw [e]
    rfl
theorem markPairS_ok {m : Nat} (hm : 4500023 ≤ m) (rows : List (List T)) (h : shPair rows) (hl : rows.length ≤ 1048576) (k : Nat) (hk : 0 < k) (hs : k + ctPair rows ≤ 4500000) (K : T → T → An) :
    laws_markPairS m (.l rows) (.i k) K = K (.i ((k + ctPair rows : Nat) : Int)) (.l (mkPair (m - 1) k rows)) := by
  obtain ⟨m, rfl⟩ : ∃ m', m = m' + 1 := ⟨m - 1, by omega⟩
  simp only [laws_markPairS, T.rows_l]
  exact (markPairS_loop m (by omega) rows [] k h hk hs (by simpa using hl) m (by omega) _)
theorem eqrPair_ok {m : Nat} (hm : 4500022 ≤ m) (x : List T)  (k : T → An) : laws_eqPair m (x.getD 0 dflt) (x.getD 1 dflt) (x.getD 0 dflt) (x.getD 1 dflt) k = k (.b true) := by
  obtain ⟨m, rfl⟩ : ∃ m', m = m' + 1 := ⟨m - 1, by omega⟩
  simp only [laws_eqPair, T.int_i, T.rows_l, T.str_s, T.bool_b, beq_toList_self, bne_self_eq_false, beq_self_eq_true, Bool.not_true, cond_false]
theorem eqvPairS_loop (m : Nat) (hm : 4500022 ≤ m) : ∀ (post pre : List (List T)), shPair post → pre.length + post.length ≤ 1048576 → ∀ n, post.length < n → ∀ k0 k1, laws_eqPairS_L0_0 m n (.l (pre ++ post)) (.l (pre ++ post)) (.i pre.length) k0 k1 = k1
  | [], pre, h, hs, n, hn, k0, k1 => by
    obtain ⟨n, rfl⟩ : ∃ m', n = m' + 1 := ⟨n - 1, by omega⟩
    simp only [laws_eqPairS_L0_0, T.int_i, T.rows_l]
    rw [dec_f (by simp)]
  | x :: post, pre, h, hs, n, hn, k0, k1 => by
    obtain ⟨n, rfl⟩ : ∃ m', n = m' + 1 := ⟨n - 1, by omega⟩
    simp only [List.length_cons] at hs hn
    obtain ⟨hx, hp⟩ := h
    have hz := hx
    have ih := eqvPairS_loop m hm post (pre ++ [x]) hp (by simp; omega) n (by omega) k0 k1
    rw [len_snoc, List.append_assoc, List.singleton_append] at ih
    simp only [laws_eqPairS_L0_0, ix_row, ix_nx pre (by omega), T.int_i, T.rows_l, T.str_s, T.bool_b, beq_toList_self, bne_self_eq_false, beq_self_eq_true, Bool.not_true, cond_false]
    rw [dec_t (by simp <;> omega), dec_t (by simp <;> omega), dec_t (by simp <;> omega)]
    rw [eqrPair_ok (m := m) (by omega) x]
    simp only [T.int_i, T.rows_l, T.str_s, T.bool_b, beq_toList_self, bne_self_eq_false, beq_self_eq_true, Bool.not_true, cond_false]
    exact ih
theorem eqvPairS_ok {m : Nat} (hm : 4500023 ≤ m) (rows : List (List T)) (h : shPair rows) (hl : rows.length ≤ 1048576) (k : T → An) : laws_eqPairS m (.l rows) (.l rows) k = k (.b true) := by
  obtain ⟨m, rfl⟩ : ∃ m', m = m' + 1 := ⟨m - 1, by omega⟩
  simp only [laws_eqPairS, T.rows_l, T.int_i, bne_self_eq_false, cond_false]
  exact eqvPairS_loop m (by omega) rows [] h (by simpa using hl) m (by omega) _ _
theorem shPair_of : ∀ {rows : List (List T)}, (∀ r ∈ rows, WtRow esPair r) → rowsBulk rows ≤ 1048576 → shPair rows ∧ ctPair rows ≤ rowsBulk rows
  | [], _, _ => ⟨trivial, Nat.le_refl _⟩
  | x :: rows, h, hb => by
    have hx := h x (by simp)
    simp only [esPair, WtRow, WtT] at hx
    obtain ⟨_, _, rfl, ⟨a0, rfl, -⟩, _, _, rfl, ⟨a1, rfl, -⟩, rfl⟩ := hx
    simp only [rowsBulk, rowBulk, tbulk] at hb
    have ih := shPair_of (rows := rows) (fun r hr => h r (by simp [hr])) (by omega)
    refine ⟨⟨rfl, ih.1⟩, ?_⟩
    simp only [ctPair, rowsBulk, rowBulk, tbulk, List.getD_cons_zero, List.getD_cons_succ, T.rows_l]
    omega
def shTable : List (List T) → Prop
  | [] => True
  | r :: rs => (r.length = 1 ∧ ((r.getD 0 dflt).rows.length ≤ 1048576 ∧ shPair (r.getD 0 dflt).rows)) ∧ shTable rs
def ctTable : List (List T) → Nat
  | [] => 0
  | r :: rs => (0 + ctPair (r.getD 0 dflt).rows) + ctTable rs
def mkTable (m : Nat) : Nat → List (List T) → List (List T)
  | _, [] => []
  | k, r :: rs => [.l (mkPair (m - 1) k ((r.getD 0 dflt).rows))] :: mkTable m ((k + ctPair ((r.getD 0 dflt).rows))) rs
theorem mkTable_len (m : Nat) : ∀ rs k, (mkTable m k rs).length = rs.length
  | [], k => rfl
  | r :: rs, k => by simp [mkTable, mkTable_len m rs]
theorem markTableS_loop (m : Nat) (hm : 4500026 ≤ m) : ∀ (post pre : List (List T)) (k : Nat), shTable post → 0 < k → k + ctTable post ≤ 4500000 → pre.length + post.length ≤ 1048576 → ∀ n, post.length < n → ∀ k0,
    laws_markTableS_L0_0 m n (.i k) (.i pre.length) (.l (pre ++ post)) k0 = k0 (.i ((k + ctTable post : Nat) : Int)) (.l (pre ++ mkTable m k post))
  | [], pre, k, h, hk, hb, hs, n, hn, k0 => by
    obtain ⟨n, rfl⟩ : ∃ m', n = m' + 1 := ⟨n - 1, by omega⟩
    simp only [laws_markTableS_L0_0, T.int_i, T.rows_l]
    rw [dec_f (by simp)]
    rfl
  | x :: post, pre, k, h, hk, hb, hs, n, hn, k0 => by
    obtain ⟨n, rfl⟩ : ∃ m', n = m' + 1 := ⟨n - 1, by omega⟩
    simp only [List.length_cons] at hs hn
    obtain ⟨hx, hp⟩ := h
    obtain ⟨hz, ⟨hl0, hs0⟩⟩ := hx
    match x, hz with
    | [c0], _ =>
    simp only [ctTable, List.getD_cons_zero, List.getD_cons_succ] at hb
    simp only [List.getD_cons_zero, List.getD_cons_succ] at hl0 hs0
    have ih := markTableS_loop m hm post (pre ++ [[.l (mkPair (m - 1) k (c0.rows))]]) ((k + ctPair (c0.rows))) hp (by omega) (by omega) (by simp; omega) n (by omega) k0
    rw [len_snoc, List.append_assoc, List.singleton_append, List.append_assoc, List.singleton_append] at ih
    simp only [laws_markTableS_L0_0, T.int_i, T.rows_l, ix_row, set_row, List.set_cons_zero, List.set_cons_succ, List.tail_cons, List.headD_cons, List.getD_cons_zero, List.getD_cons_succ, ix_nx pre (by omega), T.int_i]
    rw [dec_t (by simp <;> omega)]
    repeat (first | rw [dec_t (by simp <;> omega)] | rw [markText_ok (by omega) (by omega) (by omega)] | (rw [markPairS_ok (m := m) (by omega) c0.rows hs0 hl0 (k) (by omega) (by omega)]; simp only [T.rows_l, T.int_i, ix_row, set_row, List.set_cons_zero, List.set_cons_succ, List.tail_cons, List.headD_cons, List.getD_cons_zero, List.getD_cons_succ, T.int_i]))
    refine ih.trans ?_
    have e : (k + ctPair (c0.rows)) + ctTable post = k + (ctTable ([c0] :: post)) := by simp only [ctTable, List.getD_cons_zero, List.getD_cons_succ]; omega
    rw [e]
    rfl
theorem markTableS_ok {m : Nat} (hm : 4500027 ≤ m) (rows : List (List T)) (h : shTable rows) (hl : rows.length ≤ 1048576) (k : Nat) (hk : 0 < k) (hs : k + ctTable rows ≤ 4500000) (K : T → T → An) :
    laws_markTableS m (.l rows) (.i k) K = K (.i ((k + ctTable rows : Nat) : Int)) (.l (mkTable (m - 1) k rows)) := by
  obtain ⟨m, rfl⟩ : ∃ m', m = m' + 1 := ⟨m - 1, by omega⟩
  simp only [laws_markTableS, T.rows_l]
  exact (markTableS_loop m (by omega) rows [] k h hk hs (by simpa using hl) m (by omega) _)
theorem shTable_of : ∀ {rows : List (List T)}, (∀ r ∈ rows, WtRow esTable r) → rowsBulk rows ≤ 1048576 → shTable rows ∧ ctTable rows ≤ rowsBulk rows
  | [], _, _ => ⟨trivial, Nat.le_refl _⟩
  | x :: rows, h, hb => by
    have hx := h x (by simp)
    simp only [esTable, WtRow, WtT] at hx
    obtain ⟨_, _, rfl, ⟨a0, rfl, h0⟩, rfl⟩ := hx
    simp only [rowsBulk, rowBulk, tbulk] at hb
    have ih := shTable_of (rows := rows) (fun r hr => h r (by simp [hr])) (by omega)
    have z0 := shPair_of (rows := a0) h0 (by omega)
    have y0 := wtRows_len (es := esPair) (by simp) h0
    refine ⟨⟨⟨rfl, ⟨by simp only [List.getD_cons_zero, List.getD_cons_succ, T.rows_l]; omega, z0.1⟩⟩, ih.1⟩, ?_⟩
    simp only [ctTable, rowsBulk, rowBulk, tbulk, List.getD_cons_zero, List.getD_cons_succ, T.rows_l]
    omega
def shItem : List (List T) → Prop
  | [] => True
  | r :: rs => (r.length = 3 ∧ ((r.getD 2 dflt).rows.length ≤ 1048576 ∧ shString (r.getD 2 dflt).rows)) ∧ shItem rs
def ctItem : List (List T) → Nat
  | [] => 0
  | r :: rs => (2 + ctString (r.getD 2 dflt).rows) + ctItem rs
def mkItem (m : Nat) : Nat → List (List T) → List (List T)
  | _, [] => []
  | k, r :: rs => [.s (mtB m k), .s (mtB m (k + 1)), .l (mkString (m - 1) ((k + 1) + 1) ((r.getD 2 dflt).rows))] :: mkItem m ((((k + 1) + 1) + ctString ((r.getD 2 dflt).rows))) rs
theorem mkItem_len (m : Nat) : ∀ rs k, (mkItem m k rs).length = rs.length
  | [], k => rfl
  | r :: rs, k => by simp [mkItem, mkItem_len m rs]
theorem markItemS_loop (m : Nat) (hm : 4500026 ≤ m) : ∀ (post pre : List (List T)) (k : Nat), shItem post → 0 < k → k + ctItem post ≤ 4500000 → pre.length + post.length ≤ 1048576 → ∀ n, post.length < n → ∀ k0,
    laws_markItemS_L0_0 m n (.i k) (.i pre.length) (.l (pre ++ post)) k0 = k0 (.i ((k + ctItem post : Nat) : Int)) (.l (pre ++ mkItem m k post))
  | [], pre, k, h, hk, hb, hs, n, hn, k0 => by
    obtain ⟨n, rfl⟩ : ∃ m', n = m' + 1 := ⟨n - 1, by omega⟩
    simp only [laws_markItemS_L0_0, T.int_i, T.rows_l]
    rw [dec_f (by simp)]
    rfl
  | x :: post, pre, k, h, hk, hb, hs, n, hn, k0 => by
    obtain ⟨n, rfl⟩ : ∃ m', n = m' + 1 := ⟨n - 1, by omega⟩
    simp only [List.length_cons] at hs hn
    obtain ⟨hx, hp⟩ := h
    obtain ⟨hz, ⟨hl2, hs2⟩⟩ := hx
    match x, hz with
    | [c0, c1, c2], _ =>
    simp only [ctItem, List.getD_cons_zero, List.getD_cons_succ] at hb
    simp only [List.getD_cons_zero, List.getD_cons_succ] at hl2 hs2
    have ih := markItemS_loop m hm post (pre ++ [[.s (mtB m k), .s (mtB m (k + 1)), .l (mkString (m - 1) ((k + 1) + 1) (c2.rows))]]) ((((k + 1) + 1) + ctString (c2.rows))) hp (by omega) (by omega) (by simp; omega) n (by omega) k0
    rw [len_snoc, List.append_assoc, List.singleton_append, List.append_assoc, List.singleton_append] at ih
    simp only [laws_markItemS_L0_0, T.int_i, T.rows_l, ix_row, set_row, List.set_cons_zero, List.set_cons_succ, List.tail_cons, List.headD_cons, List.getD_cons_zero, List.getD_cons_succ, ix_nx pre (by omega), wr1 (k := (k + 1)) (by omega), wr1 (k := k) (by omega)]
    rw [dec_t (by simp <;> omega)]
    repeat (first | rw [dec_t (by simp <;> omega)] | rw [markText_ok (by omega) (by omega) (by omega)] | (rw [markStringS_ok (m := m) (by omega) c2.rows hs2 hl2 (((k + 1) + 1)) (by omega) (by omega)]; simp only [T.rows_l, T.int_i, ix_row, set_row, List.set_cons_zero, List.set_cons_succ, List.tail_cons, List.headD_cons, List.getD_cons_zero, List.getD_cons_succ, wr1 (k := (k + 1)) (by omega), wr1 (k := k) (by omega)]))
    refine ih.trans ?_
    have e : (((k + 1) + 1) + ctString (c2.rows)) + ctItem post = k + (ctItem ([c0, c1, c2] :: post)) := by simp only [ctItem, List.getD_cons_zero, List.getD_cons_succ]; omega
    rw [e]
    rfl
theorem markItemS_ok {m : Nat} (hm : 4500027 ≤ m) (rows : List (List T)) (h : shItem rows) (hl : rows.length ≤ 1048576) (k : Nat) (hk : 0 < k) (hs : k + ctItem rows ≤ 4500000) (K : T → T → An) :
    laws_markItemS m (.l rows) (.i k) K = K (.i ((k + ctItem rows : Nat) : Int)) (.l (mkItem (m - 1) k rows)) := by
  obtain ⟨m, rfl⟩ : ∃ m', m = m' + 1 := ⟨m - 1, by omega⟩
  simp only [laws_markItemS, T.rows_l]
  exact (markItemS_loop m (by omega) rows [] k h hk hs (by simpa using hl) m (by omega) _)
theorem heldItemS_loop (m : Nat) (hm : 4500026 ≤ m) (l : List (List T)) : ∀ (post pre : List (List T)) (k : Nat), l = pre ++ mkItem m k post → shItem post → 0 < k → k + ctItem post ≤ 4500000 → pre.length + post.length ≤ 1048576 → ∀ n, post.length < n → ∀ k0 k1,
    laws_heldItemS_L0_0 m n (.l l) (.i k) (.i pre.length) k0 k1 = k1 (.i ((k + ctItem post : Nat) : Int))
  | [], pre, k, he, h, hk, hb, hs, n, hn, k0, k1 => by
    obtain ⟨n, rfl⟩ : ∃ m', n = m' + 1 := ⟨n - 1, by omega⟩
    subst he
    simp only [laws_heldItemS_L0_0, T.int_i, T.rows_l]
    rw [dec_f (by simp [mkItem])]
    rfl
  | x :: post, pre, k, he, h, hk, hb, hs, n, hn, k0, k1 => by
    obtain ⟨n, rfl⟩ : ∃ m', n = m' + 1 := ⟨n - 1, by omega⟩
    simp only [List.length_cons] at hs hn
    obtain ⟨hx, hp⟩ := h
    obtain ⟨hz, ⟨hl2, hs2⟩⟩ := hx
    match x, hz with
    | [c0, c1, c2], _ =>
    simp only [ctItem, List.getD_cons_zero, List.getD_cons_succ] at hb
    simp only [List.getD_cons_zero, List.getD_cons_succ] at hl2 hs2
    have ih := heldItemS_loop m hm l post (pre ++ [[.s (mtB m k), .s (mtB m (k + 1)), .l (mkString (m - 1) ((k + 1) + 1) (c2.rows))]]) ((((k + 1) + 1) + ctString (c2.rows))) (by rw [he]; simp [mkItem]) hp (by omega) (by omega) (by simp; omega) n (by omega) k0 k1
    rw [len_snoc] at ih
    subst he
    have hml := mkItem_len m post ((((k + 1) + 1) + ctString (c2.rows)))
    simp only [laws_heldItemS_L0_0, T.int_i, T.rows_l, T.str_s, T.bool_b, mkItem, ix_row, List.drop_succ_cons, List.drop_zero, List.getD_cons_zero, List.getD_cons_succ, ix_nx pre (by omega), wr1 (k := (k + 1)) (by omega), wr1 (k := k) (by omega), beq_toList_self, bne_self_eq_false, beq_self_eq_true, Bool.not_true, cond_false]
    rw [dec_t (by simp <;> omega)]
    repeat (first | (rw [heldStringS_ok (m := m) (by omega) c2.rows hs2 hl2 (((k + 1) + 1)) (by omega) (by omega)]; simp only [T.int_i, T.rows_l, T.str_s, T.bool_b, mkItem, ix_row, List.drop_succ_cons, List.drop_zero, List.getD_cons_zero, List.getD_cons_succ, ix_nx pre (by omega), wr1 (k := (k + 1)) (by omega), wr1 (k := k) (by omega), beq_toList_self, bne_self_eq_false, beq_self_eq_true, Bool.not_true, cond_false]; rw [dec_f (by omega)]) | rw [dec_t (by simp <;> omega)] | rw [markText_ok (by omega) (by omega) (by omega)] | rw [dec_f (by omega)] | simp only [T.int_i, T.rows_l, T.str_s, T.bool_b, mkItem, ix_row, List.drop_succ_cons, List.drop_zero, List.getD_cons_zero, List.getD_cons_succ, ix_nx pre (by omega), wr1 (k := (k + 1)) (by omega), wr1 (k := k) (by omega), beq_toList_self, bne_self_eq_false, beq_self_eq_true, Bool.not_true, cond_false])
    refine ih.trans ?_
    have e : (((k + 1) + 1) + ctString (c2.rows)) + ctItem post = k + (ctItem ([c0, c1, c2] :: post)) := by simp only [ctItem, List.getD_cons_zero, List.getD_cons_succ]; omega
    rw [e]
theorem heldItemS_ok {m : Nat} (hm : 4500027 ≤ m) (rows : List (List T)) (h : shItem rows) (hl : rows.length ≤ 1048576) (k : Nat) (hk : 0 < k) (hs : k + ctItem rows ≤ 4500000) (K : T → An) :
    laws_heldItemS m (.l (mkItem (m - 1) k rows)) (.i k) K = K (.i ((k + ctItem rows : Nat) : Int)) := by
  obtain ⟨m, rfl⟩ : ∃ m', m = m' + 1 := ⟨m - 1, by omega⟩
  simp only [laws_heldItemS, T.rows_l]
  exact heldItemS_loop m (by omega) _ rows [] k rfl h hk hs (by simpa using hl) m (by omega) _ _
theorem eqrItem_ok {m : Nat} (hm : 4500026 ≤ m) (x : List T) (h2 : shString (x.getD 2 dflt).rows) (l2 : (x.getD 2 dflt).rows.length ≤ 1048576) (k : T → An) : laws_eqItem m (x.getD 0 dflt) (x.getD 1 dflt) (.l (x.getD 2 dflt).rows) (x.getD 0 dflt) (x.getD 1 dflt) (.l (x.getD 2 dflt).rows) k = k (.b true) := by
  obtain ⟨m, rfl⟩ : ∃ m', m = m' + 1 := ⟨m - 1, by omega⟩
  simp only [laws_eqItem, T.int_i, T.rows_l, T.str_s, T.bool_b, beq_toList_self, bne_self_eq_false, beq_self_eq_true, Bool.not_true, cond_false]
  rw [eqrPair_ok (by omega) x]
  simp only [T.int_i, T.rows_l, T.str_s, T.bool_b, beq_toList_self, bne_self_eq_false, beq_self_eq_true, Bool.not_true, cond_false]
  rw [eqvStringS_ok (by omega) _ h2 l2]
  try simp only [T.int_i, T.rows_l, T.str_s, T.bool_b, beq_toList_self, bne_self_eq_false, beq_self_eq_true, Bool.not_true, cond_false]
theorem eqvItemS_loop (m : Nat) (hm : 4500026 ≤ m) : ∀ (post pre : List (List T)), shItem post → pre.length + post.length ≤ 1048576 → ∀ n, post.length < n → ∀ k0 k1, laws_eqItemS_L0_0 m n (.l (pre ++ post)) (.l (pre ++ post)) (.i pre.length) k0 k1 = k1
  | [], pre, h, hs, n, hn, k0, k1 => by
    obtain ⟨n, rfl⟩ : ∃ m', n = m' + 1 := ⟨n - 1, by omega⟩
    simp only [laws_eqItemS_L0_0, T.int_i, T.rows_l]
    rw [dec_f (by simp)]
  | x :: post, pre, h, hs, n, hn, k0, k1 => by
    obtain ⟨n, rfl⟩ : ∃ m', n = m' + 1 := ⟨n - 1, by omega⟩
    simp only [List.length_cons] at hs hn
    obtain ⟨hx, hp⟩ := h
    obtain ⟨hz, ⟨hl2, hs2⟩⟩ := hx
    have ih := eqvItemS_loop m hm post (pre ++ [x]) hp (by simp; omega) n (by omega) k0 k1
    rw [len_snoc, List.append_assoc, List.singleton_append] at ih
    simp only [laws_eqItemS_L0_0, ix_row, ix_nx pre (by omega), T.int_i, T.rows_l, T.str_s, T.bool_b, beq_toList_self, bne_self_eq_false, beq_self_eq_true, Bool.not_true, cond_false]
    rw [dec_t (by simp <;> omega), dec_t (by simp <;> omega), dec_t (by simp <;> omega)]
    rw [eqrItem_ok (m := m) (by omega) x hs2 hl2]
    simp only [T.int_i, T.rows_l, T.str_s, T.bool_b, beq_toList_self, bne_self_eq_false, beq_self_eq_true, Bool.not_true, cond_false]
    exact ih
theorem eqvItemS_ok {m : Nat} (hm : 4500027 ≤ m) (rows : List (List T)) (h : shItem rows) (hl : rows.length ≤ 1048576) (k : T → An) : laws_eqItemS m (.l rows) (.l rows) k = k (.b true) := by
  obtain ⟨m, rfl⟩ : ∃ m', m = m' + 1 := ⟨m - 1, by omega⟩
  simp only [laws_eqItemS, T.rows_l, T.int_i, bne_self_eq_false, cond_false]
  exact eqvItemS_loop m (by omega) rows [] h (by simpa using hl) m (by omega) _ _
def shProof : List (List T) → Prop
  | [] => True
  | r :: rs => (r.length = 3 ∧ ((r.getD 2 dflt).rows.length ≤ 1048576 ∧ shItem (r.getD 2 dflt).rows)) ∧ shProof rs
def ctProof : List (List T) → Nat
  | [] => 0
  | r :: rs => (2 + ctItem (r.getD 2 dflt).rows) + ctProof rs
def mkProof (m : Nat) : Nat → List (List T) → List (List T)
  | _, [] => []
  | k, r :: rs => [.i ((k : Nat) : Int), .i (((k + 1) : Nat) : Int), .l (mkItem (m - 1) ((k + 1) + 1) ((r.getD 2 dflt).rows))] :: mkProof m ((((k + 1) + 1) + ctItem ((r.getD 2 dflt).rows))) rs
theorem mkProof_len (m : Nat) : ∀ rs k, (mkProof m k rs).length = rs.length
  | [], k => rfl
  | r :: rs, k => by simp [mkProof, mkProof_len m rs]
theorem markProofS_loop (m : Nat) (hm : 4500030 ≤ m) : ∀ (post pre : List (List T)) (k : Nat), shProof post → 0 < k → k + ctProof post ≤ 4500000 → pre.length + post.length ≤ 1048576 → ∀ n, post.length < n → ∀ k0,
    laws_markProofS_L0_0 m n (.i k) (.i pre.length) (.l (pre ++ post)) k0 = k0 (.i ((k + ctProof post : Nat) : Int)) (.l (pre ++ mkProof m k post))
  | [], pre, k, h, hk, hb, hs, n, hn, k0 => by
    obtain ⟨n, rfl⟩ : ∃ m', n = m' + 1 := ⟨n - 1, by omega⟩
    simp only [laws_markProofS_L0_0, T.int_i, T.rows_l]
    rw [dec_f (by simp)]
    rfl
  | x :: post, pre, k, h, hk, hb, hs, n, hn, k0 => by
    obtain ⟨n, rfl⟩ : ∃ m', n = m' + 1 := ⟨n - 1, by omega⟩
    simp only [List.length_cons] at hs hn
    obtain ⟨hx, hp⟩ := h
    obtain ⟨hz, ⟨hl2, hs2⟩⟩ := hx
    match x, hz with
    | [c0, c1, c2], _ =>
    simp only [ctProof, List.getD_cons_zero, List.getD_cons_succ] at hb
    simp only [List.getD_cons_zero, List.getD_cons_succ] at hl2 hs2
    have ih := markProofS_loop m hm post (pre ++ [[.i ((k : Nat) : Int), .i (((k + 1) : Nat) : Int), .l (mkItem (m - 1) ((k + 1) + 1) (c2.rows))]]) ((((k + 1) + 1) + ctItem (c2.rows))) hp (by omega) (by omega) (by simp; omega) n (by omega) k0
    rw [len_snoc, List.append_assoc, List.singleton_append, List.append_assoc, List.singleton_append] at ih
    simp only [laws_markProofS_L0_0, T.int_i, T.rows_l, ix_row, set_row, List.set_cons_zero, List.set_cons_succ, List.tail_cons, List.headD_cons, List.getD_cons_zero, List.getD_cons_succ, ix_nx pre (by omega), wr1 (k := (k + 1)) (by omega), wr1 (k := k) (by omega)]
    rw [dec_t (by simp <;> omega)]
    repeat (first | rw [dec_t (by simp <;> omega)] | rw [markText_ok (by omega) (by omega) (by omega)] | (rw [markItemS_ok (m := m) (by omega) c2.rows hs2 hl2 (((k + 1) + 1)) (by omega) (by omega)]; simp only [T.rows_l, T.int_i, ix_row, set_row, List.set_cons_zero, List.set_cons_succ, List.tail_cons, List.headD_cons, List.getD_cons_zero, List.getD_cons_succ, wr1 (k := (k + 1)) (by omega), wr1 (k := k) (by omega)]))
    refine ih.trans ?_
    have e : (((k + 1) + 1) + ctItem (c2.rows)) + ctProof post = k + (ctProof ([c0, c1, c2] :: post)) := by simp only [ctProof, List.getD_cons_zero, List.getD_cons_succ]; omega
    rw [e]
    rfl
theorem markProofS_ok {m : Nat} (hm : 4500031 ≤ m) (rows : List (List T)) (h : shProof rows) (hl : rows.length ≤ 1048576) (k : Nat) (hk : 0 < k) (hs : k + ctProof rows ≤ 4500000) (K : T → T → An) :
    laws_markProofS m (.l rows) (.i k) K = K (.i ((k + ctProof rows : Nat) : Int)) (.l (mkProof (m - 1) k rows)) := by
  obtain ⟨m, rfl⟩ : ∃ m', m = m' + 1 := ⟨m - 1, by omega⟩
  simp only [laws_markProofS, T.rows_l]
  exact (markProofS_loop m (by omega) rows [] k h hk hs (by simpa using hl) m (by omega) _)
theorem heldProofS_loop (m : Nat) (hm : 4500030 ≤ m) (l : List (List T)) : ∀ (post pre : List (List T)) (k : Nat), l = pre ++ mkProof m k post → shProof post → 0 < k → k + ctProof post ≤ 4500000 → pre.length + post.length ≤ 1048576 → ∀ n, post.length < n → ∀ k0 k1,
    laws_heldProofS_L0_0 m n (.l l) (.i k) (.i pre.length) k0 k1 = k1 (.i ((k + ctProof post : Nat) : Int))
  | [], pre, k, he, h, hk, hb, hs, n, hn, k0, k1 => by
    obtain ⟨n, rfl⟩ : ∃ m', n = m' + 1 := ⟨n - 1, by omega⟩
    subst he
    simp only [laws_heldProofS_L0_0, T.int_i, T.rows_l]
    rw [dec_f (by simp [mkProof])]
    rfl
  | x :: post, pre, k, he, h, hk, hb, hs, n, hn, k0, k1 => by
    obtain ⟨n, rfl⟩ : ∃ m', n = m' + 1 := ⟨n - 1, by omega⟩
    simp only [List.length_cons] at hs hn
    obtain ⟨hx, hp⟩ := h
    obtain ⟨hz, ⟨hl2, hs2⟩⟩ := hx
    match x, hz with
    | [c0, c1, c2], _ =>
    simp only [ctProof, List.getD_cons_zero, List.getD_cons_succ] at hb
    simp only [List.getD_cons_zero, List.getD_cons_succ] at hl2 hs2
    have ih := heldProofS_loop m hm l post (pre ++ [[.i ((k : Nat) : Int), .i (((k + 1) : Nat) : Int), .l (mkItem (m - 1) ((k + 1) + 1) (c2.rows))]]) ((((k + 1) + 1) + ctItem (c2.rows))) (by rw [he]; simp [mkProof]) hp (by omega) (by omega) (by simp; omega) n (by omega) k0 k1
    rw [len_snoc] at ih
    subst he
    have hml := mkProof_len m post ((((k + 1) + 1) + ctItem (c2.rows)))
    simp only [laws_heldProofS_L0_0, T.int_i, T.rows_l, T.str_s, T.bool_b, mkProof, ix_row, List.drop_succ_cons, List.drop_zero, List.getD_cons_zero, List.getD_cons_succ, ix_nx pre (by omega), wr1 (k := (k + 1)) (by omega), wr1 (k := k) (by omega), beq_toList_self, bne_self_eq_false, beq_self_eq_true, Bool.not_true, cond_false]
    rw [dec_t (by simp <;> omega)]
    repeat (first | (rw [heldItemS_ok (m := m) (by omega) c2.rows hs2 hl2 (((k + 1) + 1)) (by omega) (by omega)]; simp only [T.int_i, T.rows_l, T.str_s, T.bool_b, mkProof, ix_row, List.drop_succ_cons, List.drop_zero, List.getD_cons_zero, List.getD_cons_succ, ix_nx pre (by omega), wr1 (k := (k + 1)) (by omega), wr1 (k := k) (by omega), beq_toList_self, bne_self_eq_false, beq_self_eq_true, Bool.not_true, cond_false]; rw [dec_f (by omega)]) | rw [dec_t (by simp <;> omega)] | rw [markText_ok (by omega) (by omega) (by omega)] | rw [dec_f (by omega)] | simp only [T.int_i, T.rows_l, T.str_s, T.bool_b, mkProof, ix_row, List.drop_succ_cons, List.drop_zero, List.getD_cons_zero, List.getD_cons_succ, ix_nx pre (by omega), wr1 (k := (k + 1)) (by omega), wr1 (k := k) (by omega), beq_toList_self, bne_self_eq_false, beq_self_eq_true, Bool.not_true, cond_false])
    refine ih.trans ?_
    have e : (((k + 1) + 1) + ctItem (c2.rows)) + ctProof post = k + (ctProof ([c0, c1, c2] :: post)) := by simp only [ctProof, List.getD_cons_zero, List.getD_cons_succ]; omega
    rw [e]
theorem heldProofS_ok {m : Nat} (hm : 4500031 ≤ m) (rows : List (List T)) (h : shProof rows) (hl : rows.length ≤ 1048576) (k : Nat) (hk : 0 < k) (hs : k + ctProof rows ≤ 4500000) (K : T → An) :
    laws_heldProofS m (.l (mkProof (m - 1) k rows)) (.i k) K = K (.i ((k + ctProof rows : Nat) : Int)) := by
  obtain ⟨m, rfl⟩ : ∃ m', m = m' + 1 := ⟨m - 1, by omega⟩
  simp only [laws_heldProofS, T.rows_l]
  exact heldProofS_loop m (by omega) _ rows [] k rfl h hk hs (by simpa using hl) m (by omega) _ _
theorem eqrProof_ok {m : Nat} (hm : 4500030 ≤ m) (x : List T) (h2 : shItem (x.getD 2 dflt).rows) (l2 : (x.getD 2 dflt).rows.length ≤ 1048576) (k : T → An) : laws_eqProof m (x.getD 0 dflt) (x.getD 1 dflt) (.l (x.getD 2 dflt).rows) (x.getD 0 dflt) (x.getD 1 dflt) (.l (x.getD 2 dflt).rows) k = k (.b true) := by
  obtain ⟨m, rfl⟩ : ∃ m', m = m' + 1 := ⟨m - 1, by omega⟩
  simp only [laws_eqProof, T.int_i, T.rows_l, T.str_s, T.bool_b, beq_toList_self, bne_self_eq_false, beq_self_eq_true, Bool.not_true, cond_false]
  rw [eqvItemS_ok (by omega) _ h2 l2]
  try simp only [T.int_i, T.rows_l, T.str_s, T.bool_b, beq_toList_self, bne_self_eq_false, beq_self_eq_true, Bool.not_true, cond_false]
theorem eqvProofS_loop (m : Nat) (hm : 4500030 ≤ m) : ∀ (post pre : List (List T)), shProof post → pre.length + post.length ≤ 1048576 → ∀ n, post.length < n → ∀ k0 k1, laws_eqProofS_L0_0 m n (.l (pre ++ post)) (.l (pre ++ post)) (.i pre.length) k0 k1 = k1
  | [], pre, h, hs, n, hn, k0, k1 => by
    obtain ⟨n, rfl⟩ : ∃ m', n = m' + 1 := ⟨n - 1, by omega⟩
    simp only [laws_eqProofS_L0_0, T.int_i, T.rows_l]
    rw [dec_f (by simp)]
  | x :: post, pre, h, hs, n, hn, k0, k1 => by
    obtain ⟨n, rfl⟩ : ∃ m', n = m' + 1 := ⟨n - 1, by omega⟩
    simp only [List.length_cons] at hs hn
    obtain ⟨hx, hp⟩ := h
    obtain ⟨hz, ⟨hl2, hs2⟩⟩ := hx
    have ih := eqvProofS_loop m hm post (pre ++ [x]) hp (by simp; omega) n (by omega) k0 k1
    rw [len_snoc, List.append_assoc, List.singleton_append] at ih
    simp only [laws_eqProofS_L0_0, ix_row, ix_nx pre (by omega), T.int_i, T.rows_l, T.str_s, T.bool_b, beq_toList_self, bne_self_eq_false, beq_self_eq_true, Bool.not_true, cond_false]
    rw [dec_t (by simp <;> omega), dec_t (by simp <;> omega), dec_t (by simp <;> omega)]
    rw [eqrProof_ok (m := m) (by omega) x hs2 hl2]
    simp only [T.int_i, T.rows_l, T.str_s, T.bool_b, beq_toList_self, bne_self_eq_false, beq_self_eq_true, Bool.not_true, cond_false]
    exact ih
theorem eqvProofS_ok {m : Nat} (hm : 4500031 ≤ m) (rows : List (List T)) (h : shProof rows) (hl : rows.length ≤ 1048576) (k : T → An) : laws_eqProofS m (.l rows) (.l rows) k = k (.b true) := by
  obtain ⟨m, rfl⟩ : ∃ m', m = m' + 1 := ⟨m - 1, by omega⟩
  simp only [laws_eqProofS, T.rows_l, T.int_i, bne_self_eq_false, cond_false]
  exact eqvProofS_loop m (by omega) rows [] h (by simpa using hl) m (by omega) _ _
theorem eqvBundle_ok {m : Nat} (hm : 4500034 ≤ m) (a0 : Int) (a1 : ByteArray) (a2 : List (List T)) (a3 : List (List T)) (h2 : shString a2) (l2 : a2.length ≤ 1048576) (h3 : shProof a3) (l3 : a3.length ≤ 1048576) (k : T → An) : laws_eqBundle m (.i a0) (.s a1) (.l a2) (.l a3) (.i a0) (.s a1) (.l a2) (.l a3) k = k (.b true) := by
  obtain ⟨m, rfl⟩ : ∃ m', m = m' + 1 := ⟨m - 1, by omega⟩
  simp only [laws_eqBundle, T.int_i, T.rows_l, T.str_s, T.bool_b, beq_toList_self, bne_self_eq_false, beq_self_eq_true, Bool.not_true, cond_false]
  rw [eqvStringS_ok (by omega) a2 h2 l2]
  try simp only [T.int_i, T.rows_l, T.str_s, T.bool_b, beq_toList_self, bne_self_eq_false, beq_self_eq_true, Bool.not_true, cond_false]
  rw [eqvProofS_ok (by omega) a3 h3 l3]
  try simp only [T.int_i, T.rows_l, T.str_s, T.bool_b, beq_toList_self, bne_self_eq_false, beq_self_eq_true, Bool.not_true, cond_false]
theorem markvBundle_ok {m : Nat} (hm : 4500034 ≤ m) (a0 : T) (a1 : T) (a2 : List (List T)) (a3 : List (List T)) (h2 : shString a2) (l2 : a2.length ≤ 1048576) (h3 : shProof a3) (l3 : a3.length ≤ 1048576) (hs : ((1 + ctString a2) + ctProof a3) ≤ 4500000) (K : T → T → T → An) :
    laws_markBundle m a0 a1 (.l a2) (.l a3) (.i 1) K = K (.i ((((1 + ctString a2) + ctProof a3) : Nat) : Int)) (.l (mkString (m - 2) 1 a2)) (.l (mkProof (m - 2) (1 + ctString a2) a3)) := by
  obtain ⟨m, rfl⟩ : ∃ m', m = m' + 1 := ⟨m - 1, by omega⟩
  simp only [laws_markBundle, T.rows_l]
  refine (markStringS_ok (m := m) (by omega) a2 h2 l2 (1) (by omega) (by omega) _).trans ?_
  try simp only [T.rows_l, T.int_i]
  refine (markProofS_ok (m := m) (by omega) a3 h3 l3 ((1 + ctString a2)) (by omega) (by omega) _).trans ?_
  try simp only [T.rows_l, T.int_i]
  try rfl
theorem heldvBundle_ok {m : Nat} (hm : 4500034 ≤ m) (a0 : T) (a1 : T) (a2 : List (List T)) (a3 : List (List T)) (h2 : shString a2) (l2 : a2.length ≤ 1048576) (h3 : shProof a3) (l3 : a3.length ≤ 1048576) (hs : ((1 + ctString a2) + ctProof a3) ≤ 4500000) (K : T → An) :
    laws_heldBundle m a0 a1 (.l (mkString (m - 2) 1 a2)) (.l (mkProof (m - 2) (1 + ctString a2) a3)) (.i 1) K = K (.i ((((1 + ctString a2) + ctProof a3) : Nat) : Int)) := by
  obtain ⟨m, rfl⟩ : ∃ m', m = m' + 1 := ⟨m - 1, by omega⟩
  simp only [laws_heldBundle, T.rows_l, show m + 1 - 2 = m - 1 from by omega]
  refine (heldStringS_ok (m := m) (by omega) a2 h2 l2 (1) (by omega) (by omega) _).trans ?_
  simp only [T.rows_l, T.int_i]
  rw [dec_f (by omega)]
  refine (heldProofS_ok (m := m) (by omega) a3 h3 l3 ((1 + ctString a2)) (by omega) (by omega) _).trans ?_
  simp only [T.rows_l, T.int_i]
  rw [dec_f (by omega)]
theorem markvSeal_ok {m : Nat} (hm : 4500026 ≤ m) (a0 : T) (a1 : T) (a2 : T) (a3 : List (List T)) (h3 : shString a3) (l3 : a3.length ≤ 1048576) (hs : (1 + ctString a3) ≤ 4500000) (K : T → T → An) :
    laws_markSeal m a0 a1 a2 (.l a3) (.i 1) K = K (.i (((1 + ctString a3) : Nat) : Int)) (.l (mkString (m - 2) 1 a3)) := by
  obtain ⟨m, rfl⟩ : ∃ m', m = m' + 1 := ⟨m - 1, by omega⟩
  simp only [laws_markSeal, T.rows_l]
  refine (markStringS_ok (m := m) (by omega) a3 h3 l3 (1) (by omega) (by omega) _).trans ?_
  try simp only [T.rows_l, T.int_i]
  try rfl
end Go.Proofs.Ytnddpgeeoepkkaa

namespace Go.Proofs.Ytnddpgeeoepkkaa
open Go Go.E Go.Proofs
def tR (l : List KV) : List T := [.l (l.map rK)]
def pR (lo hi : ByteArray) (l : List KV) : List T := [.i (prvN l), .i (prvF l lo hi), .l (prvI l lo hi)]
def OkT (ts : List (List KV)) : Prop := ∀ l ∈ ts, OkP l ∧ l.length ≤ 1048576
theorem ixT (pre : List (List KV)) (x : List KV) (post : List (List KV)) : (((pre ++ x :: post).map tR).getD (Int.toNat (pre.length : Int)) []).getD 0 dflt = .l (x.map rK) := by simp [List.getD, tR]
theorem specMB (m : Nat) (hm : 22000000 ≤ m) (lo hi : ByteArray) (x6 x7 x8 x9 : T) (a b c : List (List T)) : ∀ (post pre : List (List KV)) (acc : List (List T)), OkT post → pre.length + post.length ≤ 1048576 → acc.length + post.length ≤ 1048576 → ∀ n, post.length < n → ∀ k0,
    spec_MakeBundle_L0_0 m n (.l ((pre ++ post).map tR)) (.s lo) (.s hi) (.i 0) (.i 0) (.i pre.length) x6 x7 x8 x9 (.l a) (.l b) (.l c) (.l acc) k0 = k0 (.i 0) (.i 0) x6 x7 x8 x9 (.l a) (.l b) (.l c) (.l (acc ++ post.map (pR lo hi)))
  | [], pre, acc, ho, hs, ha, n, hn, k0 => by
    obtain ⟨n, rfl⟩ : ∃ m', n = m' + 1 := ⟨n - 1, by omega⟩
    simp only [spec_MakeBundle_L0_0, T.int_i, T.rows_l]
    rw [dec_f (by simp)]
    simp only [List.map_nil, List.append_nil]
    rfl
  | x :: post, pre, acc, ho, hs, ha, n, hn, k0 => by
    obtain ⟨n, rfl⟩ : ∃ m', n = m' + 1 := ⟨n - 1, by omega⟩
    simp only [List.length_cons] at hs hn ha
    have hx := ho x (by simp)
    have ih := specMB m hm lo hi x6 x7 x8 x9 a b c post (pre ++ [x]) (acc ++ [pR lo hi x]) (fun l h => ho l (by simp [h])) (by simp; omega) (by simp; omega) n (by omega) k0
    rw [len_snoc, List.append_assoc, List.singleton_append] at ih
    simp only [spec_MakeBundle_L0_0, T.int_i, T.rows_l, ixT, ix_nx pre (by omega)]
    rw [dec_t (by simp <;> omega), dec_t (by simp <;> omega), specPrv_ok (by omega) x lo hi hx.1 hx.2]
    rw [dec_t (by unfold maxRow; omega)]
    refine ih.trans ?_
    rw [List.append_assoc]
    rfl
theorem implMB (m : Nat) (hm : 2000000 ≤ m) (lo hi : ByteArray) (x7 x8 x9 x10 : T) (a b c : List (List T)) : ∀ (post pre : List (List KV)) (acc : List (List T)), OkT post → pre.length + post.length ≤ 1048576 → acc.length + post.length ≤ 1048576 → ∀ n, post.length < n → ∀ k0,
    impl_MakeBundle_L0_0 m n (.s lo) (.s hi) (.i 0) (.i 0) (.l ((pre ++ post).map tR)) (.i ((pre ++ post).length : Nat)) (.i pre.length) x7 x8 x9 x10 (.l a) (.l b) (.l c) (.l acc) k0 = k0 (.i 0) (.i 0) x7 x8 x9 x10 (.l a) (.l b) (.l c) (.l (acc ++ post.map (pR lo hi)))
  | [], pre, acc, ho, hs, ha, n, hn, k0 => by
    obtain ⟨n, rfl⟩ : ∃ m', n = m' + 1 := ⟨n - 1, by omega⟩
    simp only [impl_MakeBundle_L0_0, T.int_i, T.rows_l]
    rw [dec_f (by simp)]
    simp only [List.map_nil, List.append_nil]
    rfl
  | x :: post, pre, acc, ho, hs, ha, n, hn, k0 => by
    obtain ⟨n, rfl⟩ : ∃ m', n = m' + 1 := ⟨n - 1, by omega⟩
    simp only [List.length_cons] at hs hn ha
    have hx := ho x (by simp)
    have ih := implMB m hm lo hi x7 x8 x9 x10 a b c post (pre ++ [x]) (acc ++ [pR lo hi x]) (fun l h => ho l (by simp [h])) (by simp; omega) (by simp; omega) n (by omega) k0
    rw [len_snoc, List.append_assoc, List.singleton_append] at ih
    simp only [impl_MakeBundle_L0_0, T.int_i, T.rows_l, ixT, ix_nx pre (by omega)]
    rw [dec_t (by simp <;> omega), dec_t (by simp <;> omega), implPrv_ok (by omega) x lo hi hx.1 hx.2]
    rw [dec_t (by unfold maxRow; omega)]
    refine ih.trans ?_
    rw [List.append_assoc]
    rfl
def same (ts : List (List KV)) (roots : List (List T)) : Bool := decide (ts.length = roots.length)
def mbNo (no : Int) (ts : List (List KV)) (roots : List (List T)) : Int := if same ts roots then no else 0
def mbPrev (p : ByteArray) (ts : List (List KV)) (roots : List (List T)) : ByteArray := if same ts roots then p else emp
def mbRoots (ts : List (List KV)) (roots : List (List T)) : List (List T) := if same ts roots then roots else []
def mbProofs (lo hi : ByteArray) (ts : List (List KV)) (roots : List (List T)) : List (List T) := if same ts roots then ts.map (pR lo hi) else []
theorem specMake_ok {m : Nat} (hm : 22000010 ≤ m) (no : Int) (prev : ByteArray) (x2 : T) (roots : List (List T)) (ts : List (List KV)) (lo hi : ByteArray) (ho : OkT ts) (hl : ts.length ≤ 1048576) (hr : roots.length ≤ 1048576) (K : T → T → T → T → An) :
    spec_MakeBundle m (.i no) (.s prev) x2 (.l roots) (.l (ts.map tR)) (.s lo) (.s hi) K = K (.i (mbNo no ts roots)) (.s (mbPrev prev ts roots)) (.l (mbRoots ts roots)) (.l (mbProofs lo hi ts roots)) := by
  obtain ⟨m, rfl⟩ : ∃ m', m = m' + 1 := ⟨m - 1, by omega⟩
  simp only [spec_MakeBundle, T.rows_l, List.length_map]
  unfold mbNo mbPrev mbRoots mbProofs same
  by_cases h : ts.length = roots.length
  · rw [cond_f (by simp [h]), dec_t (by unfold maxRow; omega)]
    refine (specMB m (by omega) lo hi _ _ _ _ _ _ _ ts [] [] ho (by simpa using hl) (by simpa using hl) m (by omega) _).trans ?_
    simp [h]
  · have hb : ((ts.length : Int) != (roots.length : Int)) = true := by simp; omega
    rw [cond_t hb]
    simp only [decide_eq_false h]
    rfl
theorem implMake_ok {m : Nat} (hm : 2000010 ≤ m) (no : Int) (prev : ByteArray) (x2 : T) (roots : List (List T)) (ts : List (List KV)) (lo hi : ByteArray) (ho : OkT ts) (hl : ts.length ≤ 1048576) (hr : roots.length ≤ 1048576) (K : T → T → T → T → An) :
    impl_MakeBundle m (.i no) (.s prev) x2 (.l roots) (.l (ts.map tR)) (.s lo) (.s hi) K = K (.i (mbNo no ts roots)) (.s (mbPrev prev ts roots)) (.l (mbRoots ts roots)) (.l (mbProofs lo hi ts roots)) := by
  obtain ⟨m, rfl⟩ : ∃ m', m = m' + 2 := ⟨m - 2, by omega⟩
  simp only [impl_MakeBundle, T.rows_l, List.length_map]
  unfold mbNo mbPrev mbRoots mbProofs same
  by_cases h : ts.length = roots.length
  · rw [cond_f (by simp [h])]
    simp only [slices_Clone___string_string_, T.rows_l]
    rw [dec_t (by unfold maxRow; omega)]
    refine (implMB (m + 1) (by omega) lo hi _ _ _ _ _ _ _ ts [] [] ho (by simpa using hl) (by simpa using hl) (m + 1) (by omega) _).trans ?_
    simp [h]
  · have hb : ((ts.length : Int) != (roots.length : Int)) = true := by simp; omega
    rw [cond_t hb]
    simp only [decide_eq_false h]
    rfl
/-! shapes of what is made -/
theorem sr_sh : ∀ l : List ByteArray, shString (sr l) ∧ ctString (sr l) = l.length
  | [] => ⟨trivial, rfl⟩
  | s :: l => by
    have ih := sr_sh l
    exact ⟨⟨rfl, ih.1⟩, by show 1 + ctString (sr l) = l.length + 1; omega⟩
theorem items_sh (l : List KV) : ∀ c i, shItem (itemsR l i c) ∧ ctItem (itemsR l i c) ≤ 62 * c
  | 0, i => ⟨trivial, by simp [itemsR, ctItem]⟩
  | c + 1, i => by
    have ih := items_sh l c (i + 1)
    have h1 := sr_sh (path 60 l i)
    have h2 := path_len 60 l i
    refine ⟨⟨⟨rfl, ?_, ?_⟩, ih.1⟩, ?_⟩
    · show (sr (path 60 l i)).length ≤ 1048576; rw [sr_len]; omega
    · exact h1.1
    · show 2 + ctString (sr (path 60 l i)) + ctItem (itemsR l (i + 1) c) ≤ _
      rw [h1.2]; omega
end Go.Proofs.Ytnddpgeeoepkkaa

namespace Go.Proofs.Ytnddpgeeoepkkaa
open Go Go.E Go.Proofs
theorem half_pow : ∀ n < 61, ∀ d < 6, n ≤ 2 ^ (d + 1) → half n ≤ 2 ^ d ∧ n - half n ≤ 2 ^ d := by decide +kernel
theorem path_log : ∀ (d f : Nat) (l : List KV) (i : Nat), l.length ≤ 2 ^ d → l.length ≤ 60 → d ≤ 6 → (path f l i).length ≤ d
  | d, 0, l, i, h, hl, hd => by simp [path]
  | 0, f + 1, l, i, h, hl, hd => by
    unfold path
    rw [if_pos (by simp at h; omega)]
    simp
  | d + 1, f + 1, l, i, h, hl, hd => by
    unfold path
    have hp := half_pow l.length (by omega) d (by omega) h
    split
    · simp
    · split
      · have := path_log d f (l.take (half l.length)) i (by simp; omega) (by simp; omega) (by omega)
        simp; omega
      · have := path_log d f (l.drop (half l.length)) (i - half l.length) (by simp; omega) (by simp; omega) (by omega)
        simp; omega
theorem items_ct (l : List KV) (hl : l.length ≤ 60) : ∀ c i, ctItem (itemsR l i c) ≤ 8 * c
  | 0, i => by simp [itemsR, ctItem]
  | c + 1, i => by
    have ih := items_ct l hl c (i + 1)
    have h1 := sr_sh (path 60 l i)
    have h2 := path_log 6 60 l i (by omega) hl (by omega)
    show 2 + ctString (sr (path 60 l i)) + ctItem (itemsR l (i + 1) c) ≤ _
    rw [h1.2]; omega
def sumL (ts : List (List KV)) : Nat := (ts.map List.length).sum
theorem proofs_sh (lo hi : ByteArray) : ∀ ts : List (List KV), OkT ts → shProof (ts.map (pR lo hi)) ∧ ctProof (ts.map (pR lo hi)) ≤ 2 * ts.length + 8 * sumL ts
  | [], _ => ⟨trivial, by simp [ctProof]⟩
  | l :: ts, ho => by
    have ih := proofs_sh lo hi ts fun l h => ho l (by simp [h])
    have hx := ho l (by simp)
    have t1 := toP_le l lo hi
    have key : shItem (prvI l lo hi) ∧ (prvI l lo hi).length ≤ 1048576 ∧ ctItem (prvI l lo hi) ≤ 8 * l.length := by
      unfold prvI
      cases hp : pairsOkP l with
      | false => exact ⟨trivial, by simp, by simp [ctItem]⟩
      | true =>
        have h60 : l.length ≤ 60 := by unfold pairsOkP at hp; simp only [Bool.and_eq_true, decide_eq_true_eq] at hp; exact hp.2
        have ht : to1 l lo hi ≤ l.length := by unfold to1; omega
        have h1 := items_sh l (to1 l lo hi - fr1 l lo) (fr1 l lo)
        have h2 := items_ct l h60 (to1 l lo hi - fr1 l lo) (fr1 l lo)
        refine ⟨h1.1, by simp [itemsR_len]; omega, ?_⟩
        simp only [if_true]
        omega
    refine ⟨⟨⟨rfl, key.2.1, key.1⟩, ih.1⟩, ?_⟩
    show 2 + ctItem (prvI l lo hi) + ctProof (ts.map (pR lo hi)) ≤ _
    simp only [sumL, List.map_cons, List.sum_cons, List.length_cons] at *
    omega
/-! rows of pairs, of tables -/
theorem rows_kv : ∀ {rows : List (List T)}, (∀ r ∈ rows, WtRow esPair r) → ∃ l : List KV, rows = l.map rK ∧ (∀ p ∈ l, p.1.size + p.2.size ≤ rowsBulk rows) ∧ 2 * l.length ≤ rowsBulk rows
  | [], _ => ⟨[], rfl, by simp, by simp⟩
  | x :: rows, h => by
    obtain ⟨l, rfl, h1, h2⟩ := rows_kv (rows := rows) fun r hr => h r (by simp [hr])
    have hx := h x (by simp)
    simp only [esPair, WtRow, WtT] at hx
    obtain ⟨_, _, rfl, ⟨a, rfl, -⟩, _, _, rfl, ⟨b, rfl, -⟩, rfl⟩ := hx
    refine ⟨(a, b) :: l, rfl, fun p hp => ?_, ?_⟩
    · simp only [rowsBulk, rowBulk, tbulk]
      rcases List.mem_cons.1 hp with rfl | hp
      · simp only; omega
      · have := h1 p hp; omega
    · simp only [rowsBulk, rowBulk, tbulk, List.length_cons]; omega
theorem rows_tb : ∀ {rows : List (List T)}, (∀ r ∈ rows, WtRow esTable r) → rowsBulk rows ≤ 1048576 → ∃ ts : List (List KV), rows = ts.map tR ∧ OkT ts ∧ ts.length + 2 * sumL ts ≤ rowsBulk rows
  | [], _, _ => ⟨[], rfl, fun l h => (by cases h), by simp [sumL]⟩
  | x :: rows, h, hb => by
    simp only [rowsBulk] at hb
    obtain ⟨ts, rfl, h1, h2⟩ := rows_tb (rows := rows) (fun r hr => h r (by simp [hr])) (by omega)
    have hx := h x (by simp)
    simp only [esTable, WtRow, WtT] at hx
    obtain ⟨_, _, rfl, ⟨a, rfl, h3⟩, rfl⟩ := hx
    obtain ⟨l, rfl, h4, h5⟩ := rows_kv (rows := a) h3
    simp only [rowBulk, tbulk] at hb
    refine ⟨l :: ts, rfl, fun z hz => ?_, ?_⟩
    · rcases List.mem_cons.1 hz with rfl | hz
      · exact ⟨fun p hp => by have := h4 p hp; omega, by omega⟩
      · exact h1 z hz
    · simp only [rowsBulk, rowBulk, tbulk, List.length_cons, sumL, List.map_cons, List.sum_cons] at h2 ⊢; omega
mutual
def neT : LT → Bool
  | .sc .any => false
  | .sc _ => true
  | .sl es => !es.isEmpty && neTs es
def neTs : List LT → Bool
  | [] => true
  | e :: es => neT e && neTs es
end
theorem rowsSz_le {es : List LT} (hes : es ≠ []) (h : ∀ r, WtRow es r → rowSz r + es.length ≤ rowBulk r) : ∀ {rows : List (List T)}, (∀ r ∈ rows, WtRow es r) → rows.length + rowsSz rows ≤ rowsBulk rows
  | [], _ => by simp [rowsSz]
  | r :: rows, hr => by
    have h1 := rowsSz_le hes h (rows := rows) fun r h => hr r (by simp [h])
    have h2 := h r (hr r (by simp))
    have h3 : 0 < es.length := List.length_pos_iff.2 hes
    simp only [rowsSz, rowsBulk, List.length_cons]
    omega
mutual
theorem tsz_le : ∀ (lt : LT), neT lt = true → ∀ t, WtT lt t → tsz t + 1 ≤ tbulk t
  | .sc (.int k), _, t, h => by unfold WtT at h; obtain ⟨n, rfl, -⟩ := h; simp [tsz, tbulk]
  | .sc .bool, _, t, h => by unfold WtT at h; obtain ⟨n, rfl⟩ := h; simp [tsz, tbulk]
  | .sc .str, _, t, h => by unfold WtT at h; obtain ⟨n, rfl, -⟩ := h; simp [tsz, tbulk]
  | .sc .any, h, _, _ => by unfold neT at h; cases h
  | .sl es, hn, t, h => by
    unfold neT at hn
    simp only [Bool.and_eq_true, Bool.not_eq_true', List.isEmpty_eq_false_iff] at hn
    unfold WtT at h
    obtain ⟨rows, rfl, h⟩ := h
    have := rowsSz_le hn.1 (rowSz_le es hn.2) h
    simp only [tsz, tbulk]
    omega
theorem rowSz_le : ∀ (es : List LT), neTs es = true → ∀ r, WtRow es r → rowSz r + es.length ≤ rowBulk r
  | [], _, r, h => by unfold WtRow at h; subst h; simp [rowSz, rowBulk]
  | e :: es, hn, r, h => by
    unfold neTs at hn
    simp only [Bool.and_eq_true] at hn
    unfold WtRow at h
    obtain ⟨d, r, rfl, h1, h2⟩ := h
    have h3 := tsz_le e hn.1 d h1
    have h4 := rowSz_le es hn.2 r h2
    simp only [rowSz, rowBulk, List.length_cons]
    omega
end
theorem fnMakeBundle_ok {m : Nat} (hm : 30000000 ≤ m) (no : Int) (prev sup : ByteArray) (a3 a4 : List (List T)) (lo hi : ByteArray) (h : WtRow esSeal [.i no, .s prev, .s sup, .l a3]) (h4 : ∀ r ∈ a4, WtRow esTable r)
    (hb : rowBulk [.i no, .s prev, .s sup, .l a3] + (rowsBulk a4 + 1 + (lo.size + 1 + (hi.size + 1))) ≤ 1048576) (k : T → An) :
    laws_FnExactMakeBundle m (.i no) (.s prev) (.s sup) (.l a3) (.l a4) (.s lo) (.s hi) k = k (.b true) := by
  obtain ⟨m, rfl⟩ : ∃ m', m = m' + 1 := ⟨m - 1, by omega⟩
  have hz := rowSz_le esSeal (by decide) _ h
  have hz4 := rowsSz_le (es := esTable) (by simp) (rowSz_le esTable (by decide)) h4
  simp only [esSeal, List.length_cons, List.length_nil] at hz
  have h3 : ∀ r ∈ a3, WtRow esString r := by
    have h := h
    simp only [esSeal, WtRow, WtT] at h
    obtain ⟨_, _, e, -, _, _, rfl, -, _, _, rfl, -, _, _, rfl, ⟨_, rfl, h⟩, -⟩ := h
    cases e
    intro r hr
    simpa only [esString, WtRow, WtT] using h r hr
  have hb' := hb
  simp only [rowBulk, tbulk] at hb'
  have zs := szSeal_ok (m := m) (by omega) no prev sup a3 h3 (by omega) 1048576 (by omega) (by omega)
  have zt := szTableS_ok (m := m) (by omega) a4 h4 (by omega) (1048576 - (rowSz [.i no, .s prev, .s sup, .l a3] : Nat)) (by omega) (by omega)
  have ts := toSeal_ok (m := m) (by omega) no prev sup a3 h3 (by omega)
  have tt := toTableS_ok (m := m) (by omega) a4 h4 (by omega)
  have es := eqSeal_ok (m := m) (by omega) no prev sup a3 h3 (by omega)
  have et := eqTableS_ok (m := m) (by omega) a4 h4 (by omega)
  have s3 := shString_of h3 (by omega)
  have s4 := shTable_of h4 (by omega)
  have l3 := wtRows_len (es := esString) (by simp) h3
  have l4 := wtRows_len (es := esTable) (by simp) h4
  have ms := fun K => markvSeal_ok (m := m) (by omega) (.i no) (.s prev) (.s sup) a3 s3.1 (by omega) (by omega) K
  have mt := fun K => markTableS_ok (m := m) (by omega) a4 s4.1 (by omega) (1 + ctString a3) (by omega) (by omega) K
  obtain ⟨tb, htb, ho, hl⟩ := rows_tb h4 (by omega)
  have hlen : tb.length ≤ 1048576 := by omega
  have sp := fun K => specMake_ok (m := m) (by omega) no prev (.s sup) a3 tb lo hi ho hlen (by omega) K
  have im := fun K => implMake_ok (m := m) (by omega) no prev (.s sup) a3 tb lo hi ho hlen (by omega) K
  rw [← htb] at sp im
  have hps := proofs_sh lo hi tb ho
  obtain ⟨g0, hg0⟩ : ∃ g, g = mbNo no tb a3 := ⟨_, rfl⟩
  obtain ⟨g1, hg1⟩ : ∃ g, g = mbPrev prev tb a3 := ⟨_, rfl⟩
  have q2 : shString (mbRoots tb a3) ∧ (mbRoots tb a3).length ≤ 1048576 ∧ ctString (mbRoots tb a3) ≤ ctString a3 := by
    unfold mbRoots; split
    · exact ⟨s3.1, by omega, Nat.le_refl _⟩
    · exact ⟨trivial, by simp, by simp [ctString]⟩
  have q3 : shProof (mbProofs lo hi tb a3) ∧ (mbProofs lo hi tb a3).length ≤ 1048576 ∧ ctProof (mbProofs lo hi tb a3) ≤ 2 * tb.length + 8 * sumL tb := by
    unfold mbProofs; split
    · exact ⟨hps.1, by simp; omega, hps.2⟩
    · exact ⟨trivial, by simp, by simp [ctProof]⟩
  rw [← hg0, ← hg1] at sp im
  generalize mbRoots tb a3 = g2 at sp im q2
  generalize mbProofs lo hi tb a3 = g3 at sp im q3
  clear hg0 hg1
  have hmp := fun K => markvBundle_ok (m := m) (by omega) (.i g0) (.s g1) g2 g3 q2.1 q2.2.1 q3.1 q3.2.1 (by omega) K
  have hhp := fun K => heldvBundle_ok (m := m) (by omega) (.i g0) (.s g1) g2 g3 q2.1 q2.2.1 q3.1 q3.2.1 (by omega) K
  have heq := fun K => eqvBundle_ok (m := m) (by omega) g0 g1 g2 g3 q2.1 q2.2.1 q3.1 q3.2.1 K
  simp only [laws_FnExactMakeBundle, jn, T.str_s, T.rows_l, zs, T.int_i]
  rw [dec_f (by omega), dec_f (by omega), dec_f (by omega), zt]
  simp only [T.int_i]
  rw [dec_f (by omega)]
  simp only [ts, tt, T.rows_l, sp, im, heq, T.bool_b, Bool.not_true, cond_false, es, et, ms, mt, T.int_i]
  rw [cond_t (by simp <;> omega)]
  simp only [hmp, hhp, T.rows_l, T.int_i]
  rw [dec_f (by omega)]
  simp only [bne_self_eq_false, cond_false, ts, tt, T.rows_l, im, heq, T.bool_b, Bool.not_true, hhp, T.int_i]
  rw [dec_f (by omega)]
end Go.Proofs.Ytnddpgeeoepkkaa

