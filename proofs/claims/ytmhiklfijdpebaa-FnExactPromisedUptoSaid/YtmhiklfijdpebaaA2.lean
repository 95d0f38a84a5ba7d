/- A part of the proof: texts S3L, S3A, S3B, S3C, S3D, S3E, S3F: see the last part's opening words. -/
import Derived.Test.YtmhiklfijdpebaaP
set_option linter.unusedVariables false
set_option linter.unusedSimpArgs false
set_option linter.unnecessarySimpa false
namespace Go.Proofs.Ytmhiklfijdpebaa
open Go Go.E Go.Proofs
mutual
def tsz : T → Nat
  | .i _ => 0
  | .b _ => 0
  | .s s => s.size
  | .l rows => rows.length + rowsSz rows
  | .x _ => 0
def rowSz : List T → Nat
  | [] => 0
  | d :: ds => tsz d + rowSz ds
def rowsSz : List (List T) → Nat
  | [] => 0
  | r :: rs => rowSz r + rowsSz rs
end
theorem rowsSz_app : ∀ a b : List (List T), rowsSz (a ++ b) = rowsSz a + rowsSz b
  | [], b => by simp [rowsSz]
  | x :: a, b => by simp only [List.cons_append, rowsSz, rowsSz_app a b]; omega
theorem rowsBulk_app : ∀ a b : List (List T), rowsBulk (a ++ b) = rowsBulk a + rowsBulk b
  | [], b => by simp [rowsBulk]
  | x :: a, b => by simp only [List.cons_append, rowsBulk, rowsBulk_app a b]; omega
theorem ix_row (pre : List (List T)) (x : List T) (post : List (List T)) : (pre ++ x :: post).getD (Int.toNat (pre.length : Int)) [] = x := by simp [List.getD]
theorem ix_nx {α : Type} (pre : List α) (h : pre.length < 4611686018427387904) : IntKind.i64.wrap ((pre.length : Int) + 1) = (pre.length : Int) + 1 := wrap_i64 (by omega) (by omega)
theorem len_snoc {α : Type} (pre : List α) (x : α) : (((pre ++ [x]).length : Nat) : Int) = (pre.length : Int) + 1 := by simp
theorem set_row (pre : List (List T)) (x y : List T) (post : List (List T)) : (pre ++ x :: post).set (Int.toNat (pre.length : Int)) y = pre ++ y :: post := by simp [List.set_append]
theorem wtRow_ne {es : List LT} (hes : es ≠ []) {r : List T} (h : WtRow es r) : 1 ≤ rowBulk r := by
  match es, hes with
  | e :: es, _ =>
    unfold WtRow at h
    obtain ⟨d, r, rfl, -, -⟩ := h
    have : 1 ≤ tbulk d := by cases d <;> simp [tbulk]
    simp only [rowBulk]; omega
theorem wtRows_len {es : List LT} (hes : es ≠ []) : ∀ {rows : List (List T)}, (∀ r ∈ rows, WtRow es r) → rows.length ≤ rowsBulk rows
  | [], _ => by simp [rowsBulk]
  | r :: rows, h => by
    have h1 := wtRow_ne hes (h r (by simp))
    have h2 := wtRows_len hes (rows := rows) fun r hr => h r (by simp [hr])
    simp only [rowsBulk, List.length_cons]; omega
abbrev esOp : List LT := [.sc (.int .i64), .sc .str, .sc .str]
theorem toOp_ok {m : Nat} (hm : 1048602 ≤ m) (a0 : Int) (a1 : ByteArray) (a2 : ByteArray)  (k : T → T → T → An) : laws_toOp m (.i a0) (.s a1) (.s a2) k = k (.i a0) (.s a1) (.s a2) := by
  obtain ⟨m, rfl⟩ : ∃ m', m = m' + 1 := ⟨m - 1, by omega⟩
  simp only [laws_toOp, T.rows_l]
theorem toOpS_loop (m : Nat) (hm : 1048602 ≤ m) : ∀ (post pre z : List (List T)), (∀ r ∈ post, WtRow esOp r) → rowsBulk post ≤ 1048576 → z.length = post.length → (∀ r ∈ z, r.length = 3) → pre.length + post.length ≤ 1048576 →
    ∀ n, post.length < n → ∀ k0, laws_toOpS_L0_0 m n (.l (pre ++ post)) (.i pre.length) (.l (pre ++ z)) k0 = k0 (.l (pre ++ post))
  | [], pre, z, h, hb, hz, hz2, hs, n, hn, k0 => by
    obtain ⟨n, rfl⟩ : ∃ m', n = m' + 1 := ⟨n - 1, by omega⟩
    obtain rfl : z = [] := List.eq_nil_of_length_eq_zero hz
    simp only [laws_toOpS_L0_0, T.int_i, T.rows_l]
    rw [dec_f (by simp)]
  | x :: post, pre, z, h, hb, hz, hz2, hs, n, hn, k0 => by
    obtain ⟨n, rfl⟩ : ∃ m', n = m' + 1 := ⟨n - 1, by omega⟩
    simp only [List.length_cons] at hs hn hz
    match z, hz, hz2 with
    | r :: z, hz, hz2 =>
    simp only [List.length_cons] at hz
    match r, hz2 r (by simp) with
    | [c0, c1, c2], _ =>
    have ih := toOpS_loop m hm post (pre ++ [x]) z (fun r hr => h r (by simp [hr])) (by simp only [rowsBulk] at hb; omega) (by omega) (fun r hr => hz2 r (by simp [hr])) (by simp; omega) n (by omega) k0
    have hx := h x (by simp)
    simp only [esOp, WtRow, WtT] at hx
    obtain ⟨_, _, rfl, ⟨a0, rfl, -⟩, _, _, rfl, ⟨a1, rfl, -⟩, _, _, rfl, ⟨a2, rfl, -⟩, rfl⟩ := hx
    simp only [rowsBulk, rowBulk, tbulk] at hb
    simp only [laws_toOpS_L0_0, T.int_i, T.rows_l, ix_row, ix_nx pre (by omega), set_row, List.getD_cons_zero, List.getD_cons_succ, List.set_cons_zero, List.set_cons_succ]
    rw [dec_t (by simp; omega), dec_t (by simp; omega)]
    rw [toOp_ok (by omega) a0 a1 a2, dec_t (by simp; omega), dec_t (by simp)]
    simpa using ih
theorem toOpS_ok {m : Nat} (hm : 1048603 ≤ m) (rows : List (List T)) (h : ∀ r ∈ rows, WtRow esOp r) (hb : rowsBulk rows ≤ 1048576) (k : T → An) : laws_toOpS m (.l rows) k = k (.l rows) := by
  obtain ⟨m, rfl⟩ : ∃ m', m = m' + 1 := ⟨m - 1, by omega⟩
  have hl := wtRows_len (by simp) h
  simp only [laws_toOpS, T.rows_l, T.int_i]
  rw [dec_t (by omega), dec_t (by unfold maxCells; omega)]
  exact toOpS_loop m (by omega) rows [] (List.replicate _ _) h hb (by simp) (fun r hr => by rw [List.eq_of_mem_replicate hr]; rfl) (by simp; omega) m (by omega) _
theorem szOp_ok {m : Nat} (hm : 1048602 ≤ m) (a0 : Int) (a1 : ByteArray) (a2 : ByteArray)  (l : Int) (hl : (rowSz [.i a0, .s a1, .s a2] : Int) ≤ l) (hl2 : l ≤ 1048576) (k : T → An) : laws_szOp m (.i a0) (.s a1) (.s a2) (.i l) k = k (.i (l - (rowSz [.i a0, .s a1, .s a2] : Nat))) := by
  obtain ⟨m, rfl⟩ : ∃ m', m = m' + 1 := ⟨m - 1, by omega⟩
  simp only [rowSz, tsz] at hl ⊢
  simp only [laws_szOp, T.rows_l, T.int_i, T.str_s]
  rw [show IntKind.i64.wrap (l - (a1.size : Int)) = l - (a1.size : Int) from wrap_i64 (by omega) (by omega)]
  rw [dec_f (by omega)]
  rw [show IntKind.i64.wrap ((l - (a1.size : Int)) - (a2.size : Int)) = (l - (a1.size : Int)) - (a2.size : Int) from wrap_i64 (by omega) (by omega)]
  rw [dec_f (by omega)]
  congr 2; omega
theorem szOpS_loop (m : Nat) (hm : 1048602 ≤ m) : ∀ (post pre : List (List T)) (l : Int), (∀ r ∈ post, WtRow esOp r) → rowsBulk post ≤ 1048576 → (rowsSz post : Int) ≤ l → l ≤ 1048576 → pre.length + post.length ≤ 1048576 →
    ∀ n, post.length < n → ∀ k0 k1, laws_szOpS_L0_0 m n (.l (pre ++ post)) (.i l) (.i pre.length) k0 k1 = k1 (.i (l - rowsSz post))
  | [], pre, l, h, hb, hl, hl2, hs, n, hn, k0, k1 => by
    obtain ⟨n, rfl⟩ : ∃ m', n = m' + 1 := ⟨n - 1, by omega⟩
    simp only [laws_szOpS_L0_0, T.int_i, T.rows_l]
    rw [dec_f (by simp)]
    simp [rowsSz]
  | x :: post, pre, l, h, hb, hl, hl2, hs, n, hn, k0, k1 => by
    obtain ⟨n, rfl⟩ : ∃ m', n = m' + 1 := ⟨n - 1, by omega⟩
    simp only [List.length_cons] at hs hn
    simp only [rowsSz] at hl ⊢
    have ih := fun l hl hl2 => szOpS_loop m hm post (pre ++ [x]) l (fun r hr => h r (by simp [hr])) (by simp only [rowsBulk] at hb; omega) hl hl2 (by simp; omega) n (by omega) k0 k1
    have hx := h x (by simp)
    simp only [esOp, WtRow, WtT] at hx
    obtain ⟨_, _, rfl, ⟨a0, rfl, -⟩, _, _, rfl, ⟨a1, rfl, -⟩, _, _, rfl, ⟨a2, rfl, -⟩, rfl⟩ := hx
    simp only [rowsBulk, rowBulk, tbulk] at hb
    simp only [laws_szOpS_L0_0, T.int_i, T.rows_l, ix_row, ix_nx pre (by omega), List.getD_cons_zero, List.getD_cons_succ]
    rw [dec_t (by simp; omega), dec_t (by simp; omega)]
    rw [szOp_ok (by omega) a0 a1 a2 l (by omega) hl2, T.int_i, dec_f (by omega)]
    have := ih (l - (rowSz [.i a0, .s a1, .s a2] : Nat)) (by omega) (by omega)
    simp only [List.append_assoc, List.cons_append, List.nil_append, len_snoc] at this
    refine this.trans ?_
    congr 2; omega
theorem szOpS_ok {m : Nat} (hm : 1048603 ≤ m) (rows : List (List T)) (h : ∀ r ∈ rows, WtRow esOp r) (hb : rowsBulk rows ≤ 1048576) (l : Int) (hl : ((rows.length + rowsSz rows : Nat) : Int) ≤ l) (hl2 : l ≤ 1048576) (k : T → An) : laws_szOpS m (.l rows) (.i l) k = k (.i (l - (rows.length + rowsSz rows : Nat))) := by
  obtain ⟨m, rfl⟩ : ∃ m', m = m' + 1 := ⟨m - 1, by omega⟩
  have hlen := wtRows_len (by simp) h
  simp only [laws_szOpS, T.rows_l, T.int_i]
  rw [show IntKind.i64.wrap (l - (rows.length : Int)) = l - (rows.length : Int) from wrap_i64 (by omega) (by omega), dec_f (by omega)]
  refine (szOpS_loop m (by omega) rows [] (l - rows.length) h hb (by omega) (by omega) (by simp; omega) m (by omega) _ _).trans ?_
  congr 2; omega
theorem eqOp_ok {m : Nat} (hm : 1048602 ≤ m) (a0 : Int) (a1 : ByteArray) (a2 : ByteArray)  (k : T → An) : laws_eqOp m (.i a0) (.s a1) (.s a2) (.i a0) (.s a1) (.s a2) k = k (.b true) := by
  obtain ⟨m, rfl⟩ : ∃ m', m = m' + 1 := ⟨m - 1, by omega⟩
  simp only [laws_eqOp, T.rows_l, T.int_i, T.str_s, T.bool_b, bne_self_eq_false, beq_toList_self, beq_self_eq_true, Bool.not_true, cond_false]
theorem eqOpS_loop (m : Nat) (hm : 1048602 ≤ m) : ∀ (post pre : List (List T)), (∀ r ∈ post, WtRow esOp r) → rowsBulk post ≤ 1048576 → pre.length + post.length ≤ 1048576 →
    ∀ n, post.length < n → ∀ k0 k1, laws_eqOpS_L0_0 m n (.l (pre ++ post)) (.l (pre ++ post)) (.i pre.length) k0 k1 = k1
  | [], pre, h, hb, hs, n, hn, k0, k1 => by
    obtain ⟨n, rfl⟩ : ∃ m', n = m' + 1 := ⟨n - 1, by omega⟩
    simp only [laws_eqOpS_L0_0, T.int_i, T.rows_l]
    rw [dec_f (by simp)]
  | x :: post, pre, h, hb, hs, n, hn, k0, k1 => by
    obtain ⟨n, rfl⟩ : ∃ m', n = m' + 1 := ⟨n - 1, by omega⟩
    simp only [List.length_cons] at hs hn
    have ih := eqOpS_loop m hm post (pre ++ [x]) (fun r hr => h r (by simp [hr])) (by simp only [rowsBulk] at hb; omega) (by simp; omega) n (by omega) k0 k1
    have hx := h x (by simp)
    simp only [esOp, WtRow, WtT] at hx
    obtain ⟨_, _, rfl, ⟨a0, rfl, -⟩, _, _, rfl, ⟨a1, rfl, -⟩, _, _, rfl, ⟨a2, rfl, -⟩, rfl⟩ := hx
    simp only [rowsBulk, rowBulk, tbulk] at hb
    simp only [laws_eqOpS_L0_0, T.int_i, T.rows_l, ix_row, ix_nx pre (by omega), List.getD_cons_zero, List.getD_cons_succ]
    rw [dec_t (by simp; omega), dec_t (by simp; omega), dec_t (by simp; omega)]
    rw [eqOp_ok (by omega) a0 a1 a2]
    simpa using ih
theorem eqOpS_ok {m : Nat} (hm : 1048603 ≤ m) (rows : List (List T)) (h : ∀ r ∈ rows, WtRow esOp r) (hb : rowsBulk rows ≤ 1048576) (k : T → An) : laws_eqOpS m (.l rows) (.l rows) k = k (.b true) := by
  obtain ⟨m, rfl⟩ : ∃ m', m = m' + 1 := ⟨m - 1, by omega⟩
  have hlen := wtRows_len (by simp) h
  simp only [laws_eqOpS, T.rows_l, T.int_i, bne_self_eq_false, cond_false]
  exact eqOpS_loop m (by omega) rows [] h hb (by simp; omega) m (by omega) _ _
abbrev esInt : List LT := [.sc (.int .i64)]
theorem toIntS_loop (m : Nat) (hm : 1048602 ≤ m) : ∀ (post pre z : List (List T)), (∀ r ∈ post, WtRow esInt r) → rowsBulk post ≤ 1048576 → z.length = post.length → (∀ r ∈ z, r.length = 1) → pre.length + post.length ≤ 1048576 →
    ∀ n, post.length < n → ∀ k0, laws_toIntS_L0_0 m n (.l (pre ++ post)) (.i pre.length) (.l (pre ++ z)) k0 = k0 (.l (pre ++ post))
  | [], pre, z, h, hb, hz, hz2, hs, n, hn, k0 => by
    obtain ⟨n, rfl⟩ : ∃ m', n = m' + 1 := ⟨n - 1, by omega⟩
    obtain rfl : z = [] := List.eq_nil_of_length_eq_zero hz
    simp only [laws_toIntS_L0_0, T.int_i, T.rows_l]
    rw [dec_f (by simp)]
  | x :: post, pre, z, h, hb, hz, hz2, hs, n, hn, k0 => by
    obtain ⟨n, rfl⟩ : ∃ m', n = m' + 1 := ⟨n - 1, by omega⟩
    simp only [List.length_cons] at hs hn hz
    match z, hz, hz2 with
    | r :: z, hz, hz2 =>
    simp only [List.length_cons] at hz
    match r, hz2 r (by simp) with
    | [c0], _ =>
    have ih := toIntS_loop m hm post (pre ++ [x]) z (fun r hr => h r (by simp [hr])) (by simp only [rowsBulk] at hb; omega) (by omega) (fun r hr => hz2 r (by simp [hr])) (by simp; omega) n (by omega) k0
    have hx := h x (by simp)
    simp only [esInt, WtRow, WtT] at hx
    obtain ⟨_, _, rfl, ⟨a0, rfl, -⟩, rfl⟩ := hx
    simp only [rowsBulk, rowBulk, tbulk] at hb
    simp only [laws_toIntS_L0_0, T.int_i, T.rows_l, ix_row, ix_nx pre (by omega), set_row, List.getD_cons_zero, List.getD_cons_succ, List.set_cons_zero, List.set_cons_succ]
    rw [dec_t (by simp; omega), dec_t (by simp; omega)]
    rw [dec_t (by simp; omega), dec_t (by simp)]
    simpa using ih
theorem toIntS_ok {m : Nat} (hm : 1048603 ≤ m) (rows : List (List T)) (h : ∀ r ∈ rows, WtRow esInt r) (hb : rowsBulk rows ≤ 1048576) (k : T → An) : laws_toIntS m (.l rows) k = k (.l rows) := by
  obtain ⟨m, rfl⟩ : ∃ m', m = m' + 1 := ⟨m - 1, by omega⟩
  have hl := wtRows_len (by simp) h
  simp only [laws_toIntS, T.rows_l, T.int_i]
  rw [dec_t (by omega), dec_t (by unfold maxCells; omega)]
  exact toIntS_loop m (by omega) rows [] (List.replicate _ _) h hb (by simp) (fun r hr => by rw [List.eq_of_mem_replicate hr]; rfl) (by simp; omega) m (by omega) _
theorem rowsInt_sz : ∀ {rows : List (List T)}, (∀ r ∈ rows, WtRow esInt r) → rowsSz rows = 0
  | [], _ => rfl
  | x :: rows, h => by
    have ih := rowsInt_sz (rows := rows) fun r hr => h r (by simp [hr])
    have hx := h x (by simp)
    simp only [esInt, WtRow, WtT] at hx
    obtain ⟨_, _, rfl, ⟨a0, rfl, -⟩, rfl⟩ := hx
    simp only [rowsSz, rowSz, tsz, ih]
theorem szIntS_ok {m : Nat} (hm : 1048603 ≤ m) (rows : List (List T)) (h : ∀ r ∈ rows, WtRow esInt r) (hb : rowsBulk rows ≤ 1048576) (l : Int) (hl : ((rows.length + rowsSz rows : Nat) : Int) ≤ l) (hl2 : l ≤ 1048576) (k : T → An) : laws_szIntS m (.l rows) (.i l) k = k (.i (l - (rows.length + rowsSz rows : Nat))) := by
  obtain ⟨m, rfl⟩ : ∃ m', m = m' + 1 := ⟨m - 1, by omega⟩
  have e := rowsInt_sz h
  rw [e] at hl ⊢
  have hlen := wtRows_len (by simp) h
  simp only [laws_szIntS, T.rows_l, T.int_i]
  rw [show IntKind.i64.wrap (l - (rows.length : Int)) = l - (rows.length : Int) from wrap_i64 (by omega) (by omega), dec_f (by omega)]
  congr 2
theorem eqIntS_loop (m : Nat) (hm : 1048602 ≤ m) : ∀ (post pre : List (List T)), (∀ r ∈ post, WtRow esInt r) → rowsBulk post ≤ 1048576 → pre.length + post.length ≤ 1048576 →
    ∀ n, post.length < n → ∀ k0 k1, laws_eqIntS_L0_0 m n (.l (pre ++ post)) (.l (pre ++ post)) (.i pre.length) k0 k1 = k1
  | [], pre, h, hb, hs, n, hn, k0, k1 => by
    obtain ⟨n, rfl⟩ : ∃ m', n = m' + 1 := ⟨n - 1, by omega⟩
    simp only [laws_eqIntS_L0_0, T.int_i, T.rows_l]
    rw [dec_f (by simp)]
  | x :: post, pre, h, hb, hs, n, hn, k0, k1 => by
    obtain ⟨n, rfl⟩ : ∃ m', n = m' + 1 := ⟨n - 1, by omega⟩
    simp only [List.length_cons] at hs hn
    have ih := eqIntS_loop m hm post (pre ++ [x]) (fun r hr => h r (by simp [hr])) (by simp only [rowsBulk] at hb; omega) (by simp; omega) n (by omega) k0 k1
    have hx := h x (by simp)
    simp only [esInt, WtRow, WtT] at hx
    obtain ⟨_, _, rfl, ⟨a0, rfl, -⟩, rfl⟩ := hx
    simp only [rowsBulk, rowBulk, tbulk] at hb
    simp only [laws_eqIntS_L0_0, T.int_i, T.rows_l, ix_row, ix_nx pre (by omega), List.getD_cons_zero, List.getD_cons_succ]
    rw [dec_t (by simp; omega), dec_t (by simp; omega), dec_t (by simp; omega)]
    simp only [T.int_i, bne_self_eq_false, cond_false]
    simpa using ih
theorem eqIntS_ok {m : Nat} (hm : 1048603 ≤ m) (rows : List (List T)) (h : ∀ r ∈ rows, WtRow esInt r) (hb : rowsBulk rows ≤ 1048576) (k : T → An) : laws_eqIntS m (.l rows) (.l rows) k = k (.b true) := by
  obtain ⟨m, rfl⟩ : ∃ m', m = m' + 1 := ⟨m - 1, by omega⟩
  have hlen := wtRows_len (by simp) h
  simp only [laws_eqIntS, T.rows_l, T.int_i, bne_self_eq_false, cond_false]
  exact eqIntS_loop m (by omega) rows [] h hb (by simp; omega) m (by omega) _ _
abbrev esJob : List LT := [.sc (.int .i64), .sl esOp, .sc (.int .i64), .sl esInt]
theorem toJob_ok {m : Nat} (hm : 1048606 ≤ m) (a0 : Int) (a1 : List (List T)) (a2 : Int) (a3 : List (List T)) (h1 : ∀ r ∈ a1, WtRow esOp r) (b1 : rowsBulk a1 ≤ 1048576) (h3 : ∀ r ∈ a3, WtRow esInt r) (b3 : rowsBulk a3 ≤ 1048576) (k : T → T → T → T → An) : laws_toJob m (.i a0) (.l a1) (.i a2) (.l a3) k = k (.i a0) (.l a1) (.i a2) (.l a3) := by
  obtain ⟨m, rfl⟩ : ∃ m', m = m' + 1 := ⟨m - 1, by omega⟩
  simp only [laws_toJob, T.rows_l]
  rw [toOpS_ok (by omega) a1 h1 b1]
  try simp only [T.rows_l]
  rw [toIntS_ok (by omega) a3 h3 b3]
  try simp only [T.rows_l]
theorem toJobS_loop (m : Nat) (hm : 1048606 ≤ m) : ∀ (post pre z : List (List T)), (∀ r ∈ post, WtRow esJob r) → rowsBulk post ≤ 1048576 → z.length = post.length → (∀ r ∈ z, r.length = 4) → pre.length + post.length ≤ 1048576 →
    ∀ n, post.length < n → ∀ k0, laws_toJobS_L0_0 m n (.l (pre ++ post)) (.i pre.length) (.l (pre ++ z)) k0 = k0 (.l (pre ++ post))
  | [], pre, z, h, hb, hz, hz2, hs, n, hn, k0 => by
    obtain ⟨n, rfl⟩ : ∃ m', n = m' + 1 := ⟨n - 1, by omega⟩
    obtain rfl : z = [] := List.eq_nil_of_length_eq_zero hz
    simp only [laws_toJobS_L0_0, T.int_i, T.rows_l]
    rw [dec_f (by simp)]
  | x :: post, pre, z, h, hb, hz, hz2, hs, n, hn, k0 => by
    obtain ⟨n, rfl⟩ : ∃ m', n = m' + 1 := ⟨n - 1, by omega⟩
    simp only [List.length_cons] at hs hn hz
    match z, hz, hz2 with
    | r :: z, hz, hz2 =>
    simp only [List.length_cons] at hz
    match r, hz2 r (by simp) with
    | [c0, c1, c2, c3], _ =>
    have ih := toJobS_loop m hm post (pre ++ [x]) z (fun r hr => h r (by simp [hr])) (by simp only [rowsBulk] at hb; omega) (by omega) (fun r hr => hz2 r (by simp [hr])) (by simp; omega) n (by omega) k0
    have hx := h x (by simp)
    simp only [esJob, WtRow, WtT] at hx
    obtain ⟨_, _, rfl, ⟨a0, rfl, -⟩, _, _, rfl, ⟨a1, rfl, h1⟩, _, _, rfl, ⟨a2, rfl, -⟩, _, _, rfl, ⟨a3, rfl, h3⟩, rfl⟩ := hx
    simp only [rowsBulk, rowBulk, tbulk] at hb
    simp only [laws_toJobS_L0_0, T.int_i, T.rows_l, ix_row, ix_nx pre (by omega), set_row, List.getD_cons_zero, List.getD_cons_succ, List.set_cons_zero, List.set_cons_succ]
    rw [dec_t (by simp; omega), dec_t (by simp; omega)]
    rw [toJob_ok (by omega) a0 a1 a2 a3 h1 (by omega) h3 (by omega), dec_t (by simp; omega), dec_t (by simp)]
    simpa using ih
theorem toJobS_ok {m : Nat} (hm : 1048607 ≤ m) (rows : List (List T)) (h : ∀ r ∈ rows, WtRow esJob r) (hb : rowsBulk rows ≤ 1048576) (k : T → An) : laws_toJobS m (.l rows) k = k (.l rows) := by
  obtain ⟨m, rfl⟩ : ∃ m', m = m' + 1 := ⟨m - 1, by omega⟩
  have hl := wtRows_len (by simp) h
  simp only [laws_toJobS, T.rows_l, T.int_i]
  rw [dec_t (by omega), dec_t (by unfold maxCells; omega)]
  exact toJobS_loop m (by omega) rows [] (List.replicate _ _) h hb (by simp) (fun r hr => by rw [List.eq_of_mem_replicate hr]; rfl) (by simp; omega) m (by omega) _
theorem szJob_ok {m : Nat} (hm : 1048606 ≤ m) (a0 : Int) (a1 : List (List T)) (a2 : Int) (a3 : List (List T)) (h1 : ∀ r ∈ a1, WtRow esOp r) (b1 : rowsBulk a1 ≤ 1048576) (h3 : ∀ r ∈ a3, WtRow esInt r) (b3 : rowsBulk a3 ≤ 1048576) (l : Int) (hl : (rowSz [.i a0, .l a1, .i a2, .l a3] : Int) ≤ l) (hl2 : l ≤ 1048576) (k : T → An) : laws_szJob m (.i a0) (.l a1) (.i a2) (.l a3) (.i l) k = k (.i (l - (rowSz [.i a0, .l a1, .i a2, .l a3] : Nat))) := by
  obtain ⟨m, rfl⟩ : ∃ m', m = m' + 1 := ⟨m - 1, by omega⟩
  simp only [rowSz, tsz] at hl ⊢
  simp only [laws_szJob, T.rows_l, T.int_i, T.str_s]
  rw [szOpS_ok (by omega) a1 h1 b1 l (by omega) (by omega), T.int_i, dec_f (by omega)]
  rw [szIntS_ok (by omega) a3 h3 b3 (l - ((a1.length + rowsSz a1 : Nat) : Int)) (by omega) (by omega), T.int_i, dec_f (by omega)]
  congr 2; omega
theorem szJobS_loop (m : Nat) (hm : 1048606 ≤ m) : ∀ (post pre : List (List T)) (l : Int), (∀ r ∈ post, WtRow esJob r) → rowsBulk post ≤ 1048576 → (rowsSz post : Int) ≤ l → l ≤ 1048576 → pre.length + post.length ≤ 1048576 →
    ∀ n, post.length < n → ∀ k0 k1, laws_szJobS_L0_0 m n (.l (pre ++ post)) (.i l) (.i pre.length) k0 k1 = k1 (.i (l - rowsSz post))
  | [], pre, l, h, hb, hl, hl2, hs, n, hn, k0, k1 => by
    obtain ⟨n, rfl⟩ : ∃ m', n = m' + 1 := ⟨n - 1, by omega⟩
    simp only [laws_szJobS_L0_0, T.int_i, T.rows_l]
    rw [dec_f (by simp)]
    simp [rowsSz]
  | x :: post, pre, l, h, hb, hl, hl2, hs, n, hn, k0, k1 => by
    obtain ⟨n, rfl⟩ : ∃ m', n = m' + 1 := ⟨n - 1, by omega⟩
    simp only [List.length_cons] at hs hn
    simp only [rowsSz] at hl ⊢
    have ih := fun l hl hl2 => szJobS_loop m hm post (pre ++ [x]) l (fun r hr => h r (by simp [hr])) (by simp only [rowsBulk] at hb; omega) hl hl2 (by simp; omega) n (by omega) k0 k1
    have hx := h x (by simp)
    simp only [esJob, WtRow, WtT] at hx
    obtain ⟨_, _, rfl, ⟨a0, rfl, -⟩, _, _, rfl, ⟨a1, rfl, h1⟩, _, _, rfl, ⟨a2, rfl, -⟩, _, _, rfl, ⟨a3, rfl, h3⟩, rfl⟩ := hx
    simp only [rowsBulk, rowBulk, tbulk] at hb
    simp only [laws_szJobS_L0_0, T.int_i, T.rows_l, ix_row, ix_nx pre (by omega), List.getD_cons_zero, List.getD_cons_succ]
    rw [dec_t (by simp; omega), dec_t (by simp; omega)]
    rw [szJob_ok (by omega) a0 a1 a2 a3 h1 (by omega) h3 (by omega) l (by omega) hl2, T.int_i, dec_f (by omega)]
    have := ih (l - (rowSz [.i a0, .l a1, .i a2, .l a3] : Nat)) (by omega) (by omega)
    simp only [List.append_assoc, List.cons_append, List.nil_append, len_snoc] at this
    refine this.trans ?_
    congr 2; omega
theorem szJobS_ok {m : Nat} (hm : 1048607 ≤ m) (rows : List (List T)) (h : ∀ r ∈ rows, WtRow esJob r) (hb : rowsBulk rows ≤ 1048576) (l : Int) (hl : ((rows.length + rowsSz rows : Nat) : Int) ≤ l) (hl2 : l ≤ 1048576) (k : T → An) : laws_szJobS m (.l rows) (.i l) k = k (.i (l - (rows.length + rowsSz rows : Nat))) := by
  obtain ⟨m, rfl⟩ : ∃ m', m = m' + 1 := ⟨m - 1, by omega⟩
  have hlen := wtRows_len (by simp) h
  simp only [laws_szJobS, T.rows_l, T.int_i]
  rw [show IntKind.i64.wrap (l - (rows.length : Int)) = l - (rows.length : Int) from wrap_i64 (by omega) (by omega), dec_f (by omega)]
  refine (szJobS_loop m (by omega) rows [] (l - rows.length) h hb (by omega) (by omega) (by simp; omega) m (by omega) _ _).trans ?_
  congr 2; omega
theorem eqJob_ok {m : Nat} (hm : 1048606 ≤ m) (a0 : Int) (a1 : List (List T)) (a2 : Int) (a3 : List (List T)) (h1 : ∀ r ∈ a1, WtRow esOp r) (b1 : rowsBulk a1 ≤ 1048576) (h3 : ∀ r ∈ a3, WtRow esInt r) (b3 : rowsBulk a3 ≤ 1048576) (k : T → An) : laws_eqJob m (.i a0) (.l a1) (.i a2) (.l a3) (.i a0) (.l a1) (.i a2) (.l a3) k = k (.b true) := by
  obtain ⟨m, rfl⟩ : ∃ m', m = m' + 1 := ⟨m - 1, by omega⟩
  simp only [laws_eqJob, T.rows_l, T.int_i, T.str_s, T.bool_b, bne_self_eq_false, beq_toList_self, beq_self_eq_true, Bool.not_true, cond_false, eqOpS_ok (m := m) (by omega) a1 h1 b1, eqIntS_ok (m := m) (by omega) a3 h3 b3]
theorem eqJobS_loop (m : Nat) (hm : 1048606 ≤ m) : ∀ (post pre : List (List T)), (∀ r ∈ post, WtRow esJob r) → rowsBulk post ≤ 1048576 → pre.length + post.length ≤ 1048576 →
    ∀ n, post.length < n → ∀ k0 k1, laws_eqJobS_L0_0 m n (.l (pre ++ post)) (.l (pre ++ post)) (.i pre.length) k0 k1 = k1
  | [], pre, h, hb, hs, n, hn, k0, k1 => by
    obtain ⟨n, rfl⟩ : ∃ m', n = m' + 1 := ⟨n - 1, by omega⟩
    simp only [laws_eqJobS_L0_0, T.int_i, T.rows_l]
    rw [dec_f (by simp)]
  | x :: post, pre, h, hb, hs, n, hn, k0, k1 => by
    obtain ⟨n, rfl⟩ : ∃ m', n = m' + 1 := ⟨n - 1, by omega⟩
    simp only [List.length_cons] at hs hn
    have ih := eqJobS_loop m hm post (pre ++ [x]) (fun r hr => h r (by simp [hr])) (by simp only [rowsBulk] at hb; omega) (by simp; omega) n (by omega) k0 k1
    have hx := h x (by simp)
    simp only [esJob, WtRow, WtT] at hx
    obtain ⟨_, _, rfl, ⟨a0, rfl, -⟩, _, _, rfl, ⟨a1, rfl, h1⟩, _, _, rfl, ⟨a2, rfl, -⟩, _, _, rfl, ⟨a3, rfl, h3⟩, rfl⟩ := hx
    simp only [rowsBulk, rowBulk, tbulk] at hb
    simp only [laws_eqJobS_L0_0, T.int_i, T.rows_l, ix_row, ix_nx pre (by omega), List.getD_cons_zero, List.getD_cons_succ]
    rw [dec_t (by simp; omega), dec_t (by simp; omega), dec_t (by simp; omega)]
    rw [eqJob_ok (by omega) a0 a1 a2 a3 h1 (by omega) h3 (by omega)]
    simpa using ih
theorem eqJobS_ok {m : Nat} (hm : 1048607 ≤ m) (rows : List (List T)) (h : ∀ r ∈ rows, WtRow esJob r) (hb : rowsBulk rows ≤ 1048576) (k : T → An) : laws_eqJobS m (.l rows) (.l rows) k = k (.b true) := by
  obtain ⟨m, rfl⟩ : ∃ m', m = m' + 1 := ⟨m - 1, by omega⟩
  have hlen := wtRows_len (by simp) h
  simp only [laws_eqJobS, T.rows_l, T.int_i, bne_self_eq_false, cond_false]
  exact eqJobS_loop m (by omega) rows [] h hb (by simp; omega) m (by omega) _ _
abbrev esChoice : List LT := [.sc (.int .i64), .sc .bool]
theorem toChoice_ok {m : Nat} (hm : 1048602 ≤ m) (a0 : Int) (a1 : Bool)  (k : T → T → An) : laws_toChoice m (.i a0) (.b a1) k = k (.i a0) (.b a1) := by
  obtain ⟨m, rfl⟩ : ∃ m', m = m' + 1 := ⟨m - 1, by omega⟩
  simp only [laws_toChoice, T.rows_l]
theorem toChoiceS_loop (m : Nat) (hm : 1048602 ≤ m) : ∀ (post pre z : List (List T)), (∀ r ∈ post, WtRow esChoice r) → rowsBulk post ≤ 1048576 → z.length = post.length → (∀ r ∈ z, r.length = 2) → pre.length + post.length ≤ 1048576 →
    ∀ n, post.length < n → ∀ k0, laws_toChoiceS_L0_0 m n (.l (pre ++ post)) (.i pre.length) (.l (pre ++ z)) k0 = k0 (.l (pre ++ post))
  | [], pre, z, h, hb, hz, hz2, hs, n, hn, k0 => by
    obtain ⟨n, rfl⟩ : ∃ m', n = m' + 1 := ⟨n - 1, by omega⟩
    obtain rfl : z = [] := List.eq_nil_of_length_eq_zero hz
    simp only [laws_toChoiceS_L0_0, T.int_i, T.rows_l]
    rw [dec_f (by simp)]
  | x :: post, pre, z, h, hb, hz, hz2, hs, n, hn, k0 => by
    obtain ⟨n, rfl⟩ : ∃ m', n = m' + 1 := ⟨n - 1, by omega⟩
    simp only [List.length_cons] at hs hn hz
    match z, hz, hz2 with
    | r :: z, hz, hz2 =>
    simp only [List.length_cons] at hz
    match r, hz2 r (by simp) with
    | [c0, c1], _ =>
    have ih := toChoiceS_loop m hm post (pre ++ [x]) z (fun r hr => h r (by simp [hr])) (by simp only [rowsBulk] at hb; omega) (by omega) (fun r hr => hz2 r (by simp [hr])) (by simp; omega) n (by omega) k0
    have hx := h x (by simp)
    simp only [esChoice, WtRow, WtT] at hx
    obtain ⟨_, _, rfl, ⟨a0, rfl, -⟩, _, _, rfl, ⟨a1, rfl⟩, rfl⟩ := hx
    simp only [rowsBulk, rowBulk, tbulk] at hb
    simp only [laws_toChoiceS_L0_0, T.int_i, T.rows_l, ix_row, ix_nx pre (by omega), set_row, List.getD_cons_zero, List.getD_cons_succ, List.set_cons_zero, List.set_cons_succ]
    rw [dec_t (by simp; omega), dec_t (by simp; omega)]
    rw [toChoice_ok (by omega) a0 a1, dec_t (by simp; omega), dec_t (by simp)]
    simpa using ih
theorem toChoiceS_ok {m : Nat} (hm : 1048603 ≤ m) (rows : List (List T)) (h : ∀ r ∈ rows, WtRow esChoice r) (hb : rowsBulk rows ≤ 1048576) (k : T → An) : laws_toChoiceS m (.l rows) k = k (.l rows) := by
  obtain ⟨m, rfl⟩ : ∃ m', m = m' + 1 := ⟨m - 1, by omega⟩
  have hl := wtRows_len (by simp) h
  simp only [laws_toChoiceS, T.rows_l, T.int_i]
  rw [dec_t (by omega), dec_t (by unfold maxCells; omega)]
  exact toChoiceS_loop m (by omega) rows [] (List.replicate _ _) h hb (by simp) (fun r hr => by rw [List.eq_of_mem_replicate hr]; rfl) (by simp; omega) m (by omega) _
theorem rowsChoice_sz : ∀ {rows : List (List T)}, (∀ r ∈ rows, WtRow esChoice r) → rowsSz rows = 0
  | [], _ => rfl
  | x :: rows, h => by
    have ih := rowsChoice_sz (rows := rows) fun r hr => h r (by simp [hr])
    have hx := h x (by simp)
    simp only [esChoice, WtRow, WtT] at hx
    obtain ⟨_, _, rfl, ⟨a0, rfl, -⟩, _, _, rfl, ⟨a1, rfl⟩, rfl⟩ := hx
    simp only [rowsSz, rowSz, tsz, ih]
theorem szChoiceS_ok {m : Nat} (hm : 1048603 ≤ m) (rows : List (List T)) (h : ∀ r ∈ rows, WtRow esChoice r) (hb : rowsBulk rows ≤ 1048576) (l : Int) (hl : ((rows.length + rowsSz rows : Nat) : Int) ≤ l) (hl2 : l ≤ 1048576) (k : T → An) : laws_szChoiceS m (.l rows) (.i l) k = k (.i (l - (rows.length + rowsSz rows : Nat))) := by
  obtain ⟨m, rfl⟩ : ∃ m', m = m' + 1 := ⟨m - 1, by omega⟩
  have e := rowsChoice_sz h
  rw [e] at hl ⊢
  have hlen := wtRows_len (by simp) h
  simp only [laws_szChoiceS, T.rows_l, T.int_i]
  rw [show IntKind.i64.wrap (l - (rows.length : Int)) = l - (rows.length : Int) from wrap_i64 (by omega) (by omega), dec_f (by omega)]
  congr 2
theorem eqChoice_ok {m : Nat} (hm : 1048602 ≤ m) (a0 : Int) (a1 : Bool)  (k : T → An) : laws_eqChoice m (.i a0) (.b a1) (.i a0) (.b a1) k = k (.b true) := by
  obtain ⟨m, rfl⟩ : ∃ m', m = m' + 1 := ⟨m - 1, by omega⟩
  simp only [laws_eqChoice, T.rows_l, T.int_i, T.str_s, T.bool_b, bne_self_eq_false, beq_toList_self, beq_self_eq_true, Bool.not_true, cond_false]
theorem eqChoiceS_loop (m : Nat) (hm : 1048602 ≤ m) : ∀ (post pre : List (List T)), (∀ r ∈ post, WtRow esChoice r) → rowsBulk post ≤ 1048576 → pre.length + post.length ≤ 1048576 →
    ∀ n, post.length < n → ∀ k0 k1, laws_eqChoiceS_L0_0 m n (.l (pre ++ post)) (.l (pre ++ post)) (.i pre.length) k0 k1 = k1
  | [], pre, h, hb, hs, n, hn, k0, k1 => by
    obtain ⟨n, rfl⟩ : ∃ m', n = m' + 1 := ⟨n - 1, by omega⟩
    simp only [laws_eqChoiceS_L0_0, T.int_i, T.rows_l]
    rw [dec_f (by simp)]
  | x :: post, pre, h, hb, hs, n, hn, k0, k1 => by
    obtain ⟨n, rfl⟩ : ∃ m', n = m' + 1 := ⟨n - 1, by omega⟩
    simp only [List.length_cons] at hs hn
    have ih := eqChoiceS_loop m hm post (pre ++ [x]) (fun r hr => h r (by simp [hr])) (by simp only [rowsBulk] at hb; omega) (by simp; omega) n (by omega) k0 k1
    have hx := h x (by simp)
    simp only [esChoice, WtRow, WtT] at hx
    obtain ⟨_, _, rfl, ⟨a0, rfl, -⟩, _, _, rfl, ⟨a1, rfl⟩, rfl⟩ := hx
    simp only [rowsBulk, rowBulk, tbulk] at hb
    simp only [laws_eqChoiceS_L0_0, T.int_i, T.rows_l, ix_row, ix_nx pre (by omega), List.getD_cons_zero, List.getD_cons_succ]
    rw [dec_t (by simp; omega), dec_t (by simp; omega), dec_t (by simp; omega)]
    rw [eqChoice_ok (by omega) a0 a1]
    simpa using ih
theorem eqChoiceS_ok {m : Nat} (hm : 1048603 ≤ m) (rows : List (List T)) (h : ∀ r ∈ rows, WtRow esChoice r) (hb : rowsBulk rows ≤ 1048576) (k : T → An) : laws_eqChoiceS m (.l rows) (.l rows) k = k (.b true) := by
  obtain ⟨m, rfl⟩ : ∃ m', m = m' + 1 := ⟨m - 1, by omega⟩
  have hlen := wtRows_len (by simp) h
  simp only [laws_eqChoiceS, T.rows_l, T.int_i, bne_self_eq_false, cond_false]
  exact eqChoiceS_loop m (by omega) rows [] h hb (by simp; omega) m (by omega) _ _
abbrev esCoord : List LT := [.sc (.int .i64), .sc (.int .i64), .sc (.int .i64), .sl esJob, .sl esChoice, .sc (.int .i64)]
theorem toCoord_ok {m : Nat} (hm : 1048610 ≤ m) (a0 : Int) (a1 : Int) (a2 : Int) (a3 : List (List T)) (a4 : List (List T)) (a5 : Int) (h3 : ∀ r ∈ a3, WtRow esJob r) (b3 : rowsBulk a3 ≤ 1048576) (h4 : ∀ r ∈ a4, WtRow esChoice r) (b4 : rowsBulk a4 ≤ 1048576) (k : T → T → T → T → T → T → An) : laws_toCoord m (.i a0) (.i a1) (.i a2) (.l a3) (.l a4) (.i a5) k = k (.i a0) (.i a1) (.i a2) (.l a3) (.l a4) (.i a5) := by
  obtain ⟨m, rfl⟩ : ∃ m', m = m' + 1 := ⟨m - 1, by omega⟩
  simp only [laws_toCoord, T.rows_l]
  rw [toJobS_ok (by omega) a3 h3 b3]
  try simp only [T.rows_l]
  rw [toChoiceS_ok (by omega) a4 h4 b4]
  try simp only [T.rows_l]
theorem szCoord_ok {m : Nat} (hm : 1048610 ≤ m) (a0 : Int) (a1 : Int) (a2 : Int) (a3 : List (List T)) (a4 : List (List T)) (a5 : Int) (h3 : ∀ r ∈ a3, WtRow esJob r) (b3 : rowsBulk a3 ≤ 1048576) (h4 : ∀ r ∈ a4, WtRow esChoice r) (b4 : rowsBulk a4 ≤ 1048576) (l : Int) (hl : (rowSz [.i a0, .i a1, .i a2, .l a3, .l a4, .i a5] : Int) ≤ l) (hl2 : l ≤ 1048576) (k : T → An) : laws_szCoord m (.i a0) (.i a1) (.i a2) (.l a3) (.l a4) (.i a5) (.i l) k = k (.i (l - (rowSz [.i a0, .i a1, .i a2, .l a3, .l a4, .i a5] : Nat))) := by
  obtain ⟨m, rfl⟩ : ∃ m', m = m' + 1 := ⟨m - 1, by omega⟩
  simp only [rowSz, tsz] at hl ⊢
  simp only [laws_szCoord, T.rows_l, T.int_i, T.str_s]
  rw [szJobS_ok (by omega) a3 h3 b3 l (by omega) (by omega), T.int_i, dec_f (by omega)]
  rw [szChoiceS_ok (by omega) a4 h4 b4 (l - ((a3.length + rowsSz a3 : Nat) : Int)) (by omega) (by omega), T.int_i, dec_f (by omega)]
  congr 2; omega
theorem eqCoord_ok {m : Nat} (hm : 1048610 ≤ m) (a0 : Int) (a1 : Int) (a2 : Int) (a3 : List (List T)) (a4 : List (List T)) (a5 : Int) (h3 : ∀ r ∈ a3, WtRow esJob r) (b3 : rowsBulk a3 ≤ 1048576) (h4 : ∀ r ∈ a4, WtRow esChoice r) (b4 : rowsBulk a4 ≤ 1048576) (k : T → An) : laws_eqCoord m (.i a0) (.i a1) (.i a2) (.l a3) (.l a4) (.i a5) (.i a0) (.i a1) (.i a2) (.l a3) (.l a4) (.i a5) k = k (.b true) := by
  obtain ⟨m, rfl⟩ : ∃ m', m = m' + 1 := ⟨m - 1, by omega⟩
  simp only [laws_eqCoord, T.rows_l, T.int_i, T.str_s, T.bool_b, bne_self_eq_false, beq_toList_self, beq_self_eq_true, Bool.not_true, cond_false, eqJobS_ok (m := m) (by omega) a3 h3 b3, eqChoiceS_ok (m := m) (by omega) a4 h4 b4]
abbrev esRec : List LT := [.sc (.int .i64), .sc (.int .i64), .sl esOp]
theorem toRec_ok {m : Nat} (hm : 1048606 ≤ m) (a0 : Int) (a1 : Int) (a2 : List (List T)) (h2 : ∀ r ∈ a2, WtRow esOp r) (b2 : rowsBulk a2 ≤ 1048576) (k : T → T → T → An) : laws_toRec m (.i a0) (.i a1) (.l a2) k = k (.i a0) (.i a1) (.l a2) := by
  obtain ⟨m, rfl⟩ : ∃ m', m = m' + 1 := ⟨m - 1, by omega⟩
  simp only [laws_toRec, T.rows_l]
  rw [toOpS_ok (by omega) a2 h2 b2]
  try simp only [T.rows_l]
theorem toRecS_loop (m : Nat) (hm : 1048606 ≤ m) : ∀ (post pre z : List (List T)), (∀ r ∈ post, WtRow esRec r) → rowsBulk post ≤ 1048576 → z.length = post.length → (∀ r ∈ z, r.length = 3) → pre.length + post.length ≤ 1048576 →
    ∀ n, post.length < n → ∀ k0, laws_toRecS_L0_0 m n (.l (pre ++ post)) (.i pre.length) (.l (pre ++ z)) k0 = k0 (.l (pre ++ post))
  | [], pre, z, h, hb, hz, hz2, hs, n, hn, k0 => by
    obtain ⟨n, rfl⟩ : ∃ m', n = m' + 1 := ⟨n - 1, by omega⟩
    obtain rfl : z = [] := List.eq_nil_of_length_eq_zero hz
    simp only [laws_toRecS_L0_0, T.int_i, T.rows_l]
    rw [dec_f (by simp)]
  | x :: post, pre, z, h, hb, hz, hz2, hs, n, hn, k0 => by
    obtain ⟨n, rfl⟩ : ∃ m', n = m' + 1 := ⟨n - 1, by omega⟩
    simp only [List.length_cons] at hs hn hz
    match z, hz, hz2 with
    | r :: z, hz, hz2 =>
    simp only [List.length_cons] at hz
    match r, hz2 r (by simp) with
    | [c0, c1, c2], _ =>
    have ih := toRecS_loop m hm post (pre ++ [x]) z (fun r hr => h r (by simp [hr])) (by simp only [rowsBulk] at hb; omega) (by omega) (fun r hr => hz2 r (by simp [hr])) (by simp; omega) n (by omega) k0
    have hx := h x (by simp)
    simp only [esRec, WtRow, WtT] at hx
    obtain ⟨_, _, rfl, ⟨a0, rfl, -⟩, _, _, rfl, ⟨a1, rfl, -⟩, _, _, rfl, ⟨a2, rfl, h2⟩, rfl⟩ := hx
    simp only [rowsBulk, rowBulk, tbulk] at hb
    simp only [laws_toRecS_L0_0, T.int_i, T.rows_l, ix_row, ix_nx pre (by omega), set_row, List.getD_cons_zero, List.getD_cons_succ, List.set_cons_zero, List.set_cons_succ]
    rw [dec_t (by simp; omega), dec_t (by simp; omega)]
    rw [toRec_ok (by omega) a0 a1 a2 h2 (by omega), dec_t (by simp; omega), dec_t (by simp)]
    simpa using ih
theorem toRecS_ok {m : Nat} (hm : 1048607 ≤ m) (rows : List (List T)) (h : ∀ r ∈ rows, WtRow esRec r) (hb : rowsBulk rows ≤ 1048576) (k : T → An) : laws_toRecS m (.l rows) k = k (.l rows) := by
  obtain ⟨m, rfl⟩ : ∃ m', m = m' + 1 := ⟨m - 1, by omega⟩
  have hl := wtRows_len (by simp) h
  simp only [laws_toRecS, T.rows_l, T.int_i]
  rw [dec_t (by omega), dec_t (by unfold maxCells; omega)]
  exact toRecS_loop m (by omega) rows [] (List.replicate _ _) h hb (by simp) (fun r hr => by rw [List.eq_of_mem_replicate hr]; rfl) (by simp; omega) m (by omega) _
theorem szRec_ok {m : Nat} (hm : 1048606 ≤ m) (a0 : Int) (a1 : Int) (a2 : List (List T)) (h2 : ∀ r ∈ a2, WtRow esOp r) (b2 : rowsBulk a2 ≤ 1048576) (l : Int) (hl : (rowSz [.i a0, .i a1, .l a2] : Int) ≤ l) (hl2 : l ≤ 1048576) (k : T → An) : laws_szRec m (.i a0) (.i a1) (.l a2) (.i l) k = k (.i (l - (rowSz [.i a0, .i a1, .l a2] : Nat))) := by
  obtain ⟨m, rfl⟩ : ∃ m', m = m' + 1 := ⟨m - 1, by omega⟩
  simp only [rowSz, tsz] at hl ⊢
  simp only [laws_szRec, T.rows_l, T.int_i, T.str_s]
  rw [szOpS_ok (by omega) a2 h2 b2 l (by omega) (by omega), T.int_i, dec_f (by omega)]
  congr 2; omega
theorem szRecS_loop (m : Nat) (hm : 1048606 ≤ m) : ∀ (post pre : List (List T)) (l : Int), (∀ r ∈ post, WtRow esRec r) → rowsBulk post ≤ 1048576 → (rowsSz post : Int) ≤ l → l ≤ 1048576 → pre.length + post.length ≤ 1048576 →
    ∀ n, post.length < n → ∀ k0 k1, laws_szRecS_L0_0 m n (.l (pre ++ post)) (.i l) (.i pre.length) k0 k1 = k1 (.i (l - rowsSz post))
  | [], pre, l, h, hb, hl, hl2, hs, n, hn, k0, k1 => by
    obtain ⟨n, rfl⟩ : ∃ m', n = m' + 1 := ⟨n - 1, by omega⟩
    simp only [laws_szRecS_L0_0, T.int_i, T.rows_l]
    rw [dec_f (by simp)]
    simp [rowsSz]
  | x :: post, pre, l, h, hb, hl, hl2, hs, n, hn, k0, k1 => by
    obtain ⟨n, rfl⟩ : ∃ m', n = m' + 1 := ⟨n - 1, by omega⟩
    simp only [List.length_cons] at hs hn
    simp only [rowsSz] at hl ⊢
    have ih := fun l hl hl2 => szRecS_loop m hm post (pre ++ [x]) l (fun r hr => h r (by simp [hr])) (by simp only [rowsBulk] at hb; omega) hl hl2 (by simp; omega) n (by omega) k0 k1
    have hx := h x (by simp)
    simp only [esRec, WtRow, WtT] at hx
    obtain ⟨_, _, rfl, ⟨a0, rfl, -⟩, _, _, rfl, ⟨a1, rfl, -⟩, _, _, rfl, ⟨a2, rfl, h2⟩, rfl⟩ := hx
    simp only [rowsBulk, rowBulk, tbulk] at hb
    simp only [laws_szRecS_L0_0, T.int_i, T.rows_l, ix_row, ix_nx pre (by omega), List.getD_cons_zero, List.getD_cons_succ]
    rw [dec_t (by simp; omega), dec_t (by simp; omega)]
    rw [szRec_ok (by omega) a0 a1 a2 h2 (by omega) l (by omega) hl2, T.int_i, dec_f (by omega)]
    have := ih (l - (rowSz [.i a0, .i a1, .l a2] : Nat)) (by omega) (by omega)
    simp only [List.append_assoc, List.cons_append, List.nil_append, len_snoc] at this
    refine this.trans ?_
    congr 2; omega
theorem szRecS_ok {m : Nat} (hm : 1048607 ≤ m) (rows : List (List T)) (h : ∀ r ∈ rows, WtRow esRec r) (hb : rowsBulk rows ≤ 1048576) (l : Int) (hl : ((rows.length + rowsSz rows : Nat) : Int) ≤ l) (hl2 : l ≤ 1048576) (k : T → An) : laws_szRecS m (.l rows) (.i l) k = k (.i (l - (rows.length + rowsSz rows : Nat))) := by
  obtain ⟨m, rfl⟩ : ∃ m', m = m' + 1 := ⟨m - 1, by omega⟩
  have hlen := wtRows_len (by simp) h
  simp only [laws_szRecS, T.rows_l, T.int_i]
  rw [show IntKind.i64.wrap (l - (rows.length : Int)) = l - (rows.length : Int) from wrap_i64 (by omega) (by omega), dec_f (by omega)]
  refine (szRecS_loop m (by omega) rows [] (l - rows.length) h hb (by omega) (by omega) (by simp; omega) m (by omega) _ _).trans ?_
  congr 2; omega
theorem eqRec_ok {m : Nat} (hm : 1048606 ≤ m) (a0 : Int) (a1 : Int) (a2 : List (List T)) (h2 : ∀ r ∈ a2, WtRow esOp r) (b2 : rowsBulk a2 ≤ 1048576) (k : T → An) : laws_eqRec m (.i a0) (.i a1) (.l a2) (.i a0) (.i a1) (.l a2) k = k (.b true) := by
  obtain ⟨m, rfl⟩ : ∃ m', m = m' + 1 := ⟨m - 1, by omega⟩
  simp only [laws_eqRec, T.rows_l, T.int_i, T.str_s, T.bool_b, bne_self_eq_false, beq_toList_self, beq_self_eq_true, Bool.not_true, cond_false, eqOpS_ok (m := m) (by omega) a2 h2 b2]
theorem eqRecS_loop (m : Nat) (hm : 1048606 ≤ m) : ∀ (post pre : List (List T)), (∀ r ∈ post, WtRow esRec r) → rowsBulk post ≤ 1048576 → pre.length + post.length ≤ 1048576 →
    ∀ n, post.length < n → ∀ k0 k1, laws_eqRecS_L0_0 m n (.l (pre ++ post)) (.l (pre ++ post)) (.i pre.length) k0 k1 = k1
  | [], pre, h, hb, hs, n, hn, k0, k1 => by
    obtain ⟨n, rfl⟩ : ∃ m', n = m' + 1 := ⟨n - 1, by omega⟩
    simp only [laws_eqRecS_L0_0, T.int_i, T.rows_l]
    rw [dec_f (by simp)]
  | x :: post, pre, h, hb, hs, n, hn, k0, k1 => by
    obtain ⟨n, rfl⟩ : ∃ m', n = m' + 1 := ⟨n - 1, by omega⟩
    simp only [List.length_cons] at hs hn
    have ih := eqRecS_loop m hm post (pre ++ [x]) (fun r hr => h r (by simp [hr])) (by simp only [rowsBulk] at hb; omega) (by simp; omega) n (by omega) k0 k1
    have hx := h x (by simp)
    simp only [esRec, WtRow, WtT] at hx
    obtain ⟨_, _, rfl, ⟨a0, rfl, -⟩, _, _, rfl, ⟨a1, rfl, -⟩, _, _, rfl, ⟨a2, rfl, h2⟩, rfl⟩ := hx
    simp only [rowsBulk, rowBulk, tbulk] at hb
    simp only [laws_eqRecS_L0_0, T.int_i, T.rows_l, ix_row, ix_nx pre (by omega), List.getD_cons_zero, List.getD_cons_succ]
    rw [dec_t (by simp; omega), dec_t (by simp; omega), dec_t (by simp; omega)]
    rw [eqRec_ok (by omega) a0 a1 a2 h2 (by omega)]
    simpa using ih
theorem eqRecS_ok {m : Nat} (hm : 1048607 ≤ m) (rows : List (List T)) (h : ∀ r ∈ rows, WtRow esRec r) (hb : rowsBulk rows ≤ 1048576) (k : T → An) : laws_eqRecS m (.l rows) (.l rows) k = k (.b true) := by
  obtain ⟨m, rfl⟩ : ∃ m', m = m' + 1 := ⟨m - 1, by omega⟩
  have hlen := wtRows_len (by simp) h
  simp only [laws_eqRecS, T.rows_l, T.int_i, bne_self_eq_false, cond_false]
  exact eqRecS_loop m (by omega) rows [] h hb (by simp; omega) m (by omega) _ _
abbrev esPair : List LT := [.sc .str, .sc .str]
theorem toPair_ok {m : Nat} (hm : 1048602 ≤ m) (a0 : ByteArray) (a1 : ByteArray)  (k : T → T → An) : laws_toPair m (.s a0) (.s a1) k = k (.s a0) (.s a1) := by
  obtain ⟨m, rfl⟩ : ∃ m', m = m' + 1 := ⟨m - 1, by omega⟩
  simp only [laws_toPair, T.rows_l]
theorem toPairS_loop (m : Nat) (hm : 1048602 ≤ m) : ∀ (post pre z : List (List T)), (∀ r ∈ post, WtRow esPair r) → rowsBulk post ≤ 1048576 → z.length = post.length → (∀ r ∈ z, r.length = 2) → pre.length + post.length ≤ 1048576 →
    ∀ n, post.length < n → ∀ k0, laws_toPairS_L0_0 m n (.l (pre ++ post)) (.i pre.length) (.l (pre ++ z)) k0 = k0 (.l (pre ++ post))
  | [], pre, z, h, hb, hz, hz2, hs, n, hn, k0 => by
    obtain ⟨n, rfl⟩ : ∃ m', n = m' + 1 := ⟨n - 1, by omega⟩
    obtain rfl : z = [] := List.eq_nil_of_length_eq_zero hz
    simp only [laws_toPairS_L0_0, T.int_i, T.rows_l]
    rw [dec_f (by simp)]
  | x :: post, pre, z, h, hb, hz, hz2, hs, n, hn, k0 => by
    obtain ⟨n, rfl⟩ : ∃ m', n = m' + 1 := ⟨n - 1, by omega⟩
    simp only [List.length_cons] at hs hn hz
    match z, hz, hz2 with
    | r :: z, hz, hz2 =>
    simp only [List.length_cons] at hz
    match r, hz2 r (by simp) with
    | [c0, c1], _ =>
    have ih := toPairS_loop m hm post (pre ++ [x]) z (fun r hr => h r (by simp [hr])) (by simp only [rowsBulk] at hb; omega) (by omega) (fun r hr => hz2 r (by simp [hr])) (by simp; omega) n (by omega) k0
    have hx := h x (by simp)
    simp only [esPair, WtRow, WtT] at hx
    obtain ⟨_, _, rfl, ⟨a0, rfl, -⟩, _, _, rfl, ⟨a1, rfl, -⟩, rfl⟩ := hx
    simp only [rowsBulk, rowBulk, tbulk] at hb
    simp only [laws_toPairS_L0_0, T.int_i, T.rows_l, ix_row, ix_nx pre (by omega), set_row, List.getD_cons_zero, List.getD_cons_succ, List.set_cons_zero, List.set_cons_succ]
    rw [dec_t (by simp; omega), dec_t (by simp; omega)]
    rw [toPair_ok (by omega) a0 a1, dec_t (by simp; omega), dec_t (by simp)]
    simpa using ih
theorem toPairS_ok {m : Nat} (hm : 1048603 ≤ m) (rows : List (List T)) (h : ∀ r ∈ rows, WtRow esPair r) (hb : rowsBulk rows ≤ 1048576) (k : T → An) : laws_toPairS m (.l rows) k = k (.l rows) := by
  obtain ⟨m, rfl⟩ : ∃ m', m = m' + 1 := ⟨m - 1, by omega⟩
  have hl := wtRows_len (by simp) h
  simp only [laws_toPairS, T.rows_l, T.int_i]
  rw [dec_t (by omega), dec_t (by unfold maxCells; omega)]
  exact toPairS_loop m (by omega) rows [] (List.replicate _ _) h hb (by simp) (fun r hr => by rw [List.eq_of_mem_replicate hr]; rfl) (by simp; omega) m (by omega) _
theorem szPair_ok {m : Nat} (hm : 1048602 ≤ m) (a0 : ByteArray) (a1 : ByteArray)  (l : Int) (hl : (rowSz [.s a0, .s a1] : Int) ≤ l) (hl2 : l ≤ 1048576) (k : T → An) : laws_szPair m (.s a0) (.s a1) (.i l) k = k (.i (l - (rowSz [.s a0, .s a1] : Nat))) := by
  obtain ⟨m, rfl⟩ : ∃ m', m = m' + 1 := ⟨m - 1, by omega⟩
  simp only [rowSz, tsz] at hl ⊢
  simp only [laws_szPair, T.rows_l, T.int_i, T.str_s]
  rw [show IntKind.i64.wrap (l - (a0.size : Int)) = l - (a0.size : Int) from wrap_i64 (by omega) (by omega)]
  rw [dec_f (by omega)]
  rw [show IntKind.i64.wrap ((l - (a0.size : Int)) - (a1.size : Int)) = (l - (a0.size : Int)) - (a1.size : Int) from wrap_i64 (by omega) (by omega)]
  rw [dec_f (by omega)]
  congr 2; omega
theorem szPairS_loop (m : Nat) (hm : 1048602 ≤ m) : ∀ (post pre : List (List T)) (l : Int), (∀ r ∈ post, WtRow esPair r) → rowsBulk post ≤ 1048576 → (rowsSz post : Int) ≤ l → l ≤ 1048576 → pre.length + post.length ≤ 1048576 →
    ∀ n, post.length < n → ∀ k0 k1, laws_szPairS_L0_0 m n (.l (pre ++ post)) (.i l) (.i pre.length) k0 k1 = k1 (.i (l - rowsSz post))
  | [], pre, l, h, hb, hl, hl2, hs, n, hn, k0, k1 => by
    obtain ⟨n, rfl⟩ : ∃ m', n = m' + 1 := ⟨n - 1, by omega⟩
    simp only [laws_szPairS_L0_0, T.int_i, T.rows_l]
    rw [dec_f (by simp)]
    simp [rowsSz]
  | x :: post, pre, l, h, hb, hl, hl2, hs, n, hn, k0, k1 => by
    obtain ⟨n, rfl⟩ : ∃ m', n = m' + 1 := ⟨n - 1, by omega⟩
    simp only [List.length_cons] at hs hn
    simp only [rowsSz] at hl ⊢
    have ih := fun l hl hl2 => szPairS_loop m hm post (pre ++ [x]) l (fun r hr => h r (by simp [hr])) (by simp only [rowsBulk] at hb; omega) hl hl2 (by simp; omega) n (by omega) k0 k1
    have hx := h x (by simp)
    simp only [esPair, WtRow, WtT] at hx
    obtain ⟨_, _, rfl, ⟨a0, rfl, -⟩, _, _, rfl, ⟨a1, rfl, -⟩, rfl⟩ := hx
    simp only [rowsBulk, rowBulk, tbulk] at hb
    simp only [laws_szPairS_L0_0, T.int_i, T.rows_l, ix_row, ix_nx pre (by omega), List.getD_cons_zero, List.getD_cons_succ]
    rw [dec_t (by simp; omega), dec_t (by simp; omega)]
    rw [szPair_ok (by omega) a0 a1 l (by omega) hl2, T.int_i, dec_f (by omega)]
    have := ih (l - (rowSz [.s a0, .s a1] : Nat)) (by omega) (by omega)
    simp only [List.append_assoc, List.cons_append, List.nil_append, len_snoc] at this
    refine this.trans ?_
    congr 2; omega
theorem szPairS_ok {m : Nat} (hm : 1048603 ≤ m) (rows : List (List T)) (h : ∀ r ∈ rows, WtRow esPair r) (hb : rowsBulk rows ≤ 1048576) (l : Int) (hl : ((rows.length + rowsSz rows : Nat) : Int) ≤ l) (hl2 : l ≤ 1048576) (k : T → An) : laws_szPairS m (.l rows) (.i l) k = k (.i (l - (rows.length + rowsSz rows : Nat))) := by
  obtain ⟨m, rfl⟩ : ∃ m', m = m' + 1 := ⟨m - 1, by omega⟩
  have hlen := wtRows_len (by simp) h
  simp only [laws_szPairS, T.rows_l, T.int_i]
  rw [show IntKind.i64.wrap (l - (rows.length : Int)) = l - (rows.length : Int) from wrap_i64 (by omega) (by omega), dec_f (by omega)]
  refine (szPairS_loop m (by omega) rows [] (l - rows.length) h hb (by omega) (by omega) (by simp; omega) m (by omega) _ _).trans ?_
  congr 2; omega
theorem eqPair_ok {m : Nat} (hm : 1048602 ≤ m) (a0 : ByteArray) (a1 : ByteArray)  (k : T → An) : laws_eqPair m (.s a0) (.s a1) (.s a0) (.s a1) k = k (.b true) := by
  obtain ⟨m, rfl⟩ : ∃ m', m = m' + 1 := ⟨m - 1, by omega⟩
  simp only [laws_eqPair, T.rows_l, T.int_i, T.str_s, T.bool_b, bne_self_eq_false, beq_toList_self, beq_self_eq_true, Bool.not_true, cond_false]
theorem eqPairS_loop (m : Nat) (hm : 1048602 ≤ m) : ∀ (post pre : List (List T)), (∀ r ∈ post, WtRow esPair r) → rowsBulk post ≤ 1048576 → pre.length + post.length ≤ 1048576 →
    ∀ n, post.length < n → ∀ k0 k1, laws_eqPairS_L0_0 m n (.l (pre ++ post)) (.l (pre ++ post)) (.i pre.length) k0 k1 = k1
  | [], pre, h, hb, hs, n, hn, k0, k1 => by
    obtain ⟨n, rfl⟩ : ∃ m', n = m' + 1 := ⟨n - 1, by omega⟩
    simp only [laws_eqPairS_L0_0, T.int_i, T.rows_l]
    rw [dec_f (by simp)]
  | x :: post, pre, h, hb, hs, n, hn, k0, k1 => by
    obtain ⟨n, rfl⟩ : ∃ m', n = m' + 1 := ⟨n - 1, by omega⟩
    simp only [List.length_cons] at hs hn
    have ih := eqPairS_loop m hm post (pre ++ [x]) (fun r hr => h r (by simp [hr])) (by simp only [rowsBulk] at hb; omega) (by simp; omega) n (by omega) k0 k1
    have hx := h x (by simp)
    simp only [esPair, WtRow, WtT] at hx
    obtain ⟨_, _, rfl, ⟨a0, rfl, -⟩, _, _, rfl, ⟨a1, rfl, -⟩, rfl⟩ := hx
    simp only [rowsBulk, rowBulk, tbulk] at hb
    simp only [laws_eqPairS_L0_0, T.int_i, T.rows_l, ix_row, ix_nx pre (by omega), List.getD_cons_zero, List.getD_cons_succ]
    rw [dec_t (by simp; omega), dec_t (by simp; omega), dec_t (by simp; omega)]
    rw [eqPair_ok (by omega) a0 a1]
    simpa using ih
theorem eqPairS_ok {m : Nat} (hm : 1048603 ≤ m) (rows : List (List T)) (h : ∀ r ∈ rows, WtRow esPair r) (hb : rowsBulk rows ≤ 1048576) (k : T → An) : laws_eqPairS m (.l rows) (.l rows) k = k (.b true) := by
  obtain ⟨m, rfl⟩ : ∃ m', m = m' + 1 := ⟨m - 1, by omega⟩
  have hlen := wtRows_len (by simp) h
  simp only [laws_eqPairS, T.rows_l, T.int_i, bne_self_eq_false, cond_false]
  exact eqPairS_loop m (by omega) rows [] h hb (by simp; omega) m (by omega) _ _
abbrev esShard : List LT := [.sc (.int .i64), .sl esRec, .sc (.int .i64), .sl esPair, .sl esRec]
theorem toShard_ok {m : Nat} (hm : 1048610 ≤ m) (a0 : Int) (a1 : List (List T)) (a2 : Int) (a3 : List (List T)) (a4 : List (List T)) (h1 : ∀ r ∈ a1, WtRow esRec r) (b1 : rowsBulk a1 ≤ 1048576) (h3 : ∀ r ∈ a3, WtRow esPair r) (b3 : rowsBulk a3 ≤ 1048576) (h4 : ∀ r ∈ a4, WtRow esRec r) (b4 : rowsBulk a4 ≤ 1048576) (k : T → T → T → T → T → An) : laws_toShard m (.i a0) (.l a1) (.i a2) (.l a3) (.l a4) k = k (.i a0) (.l a1) (.i a2) (.l a3) (.l a4) := by
  obtain ⟨m, rfl⟩ : ∃ m', m = m' + 1 := ⟨m - 1, by omega⟩
  simp only [laws_toShard, T.rows_l]
  rw [toRecS_ok (by omega) a1 h1 b1]
  try simp only [T.rows_l]
  rw [toPairS_ok (by omega) a3 h3 b3]
  try simp only [T.rows_l]
  rw [toRecS_ok (by omega) a4 h4 b4]
  try simp only [T.rows_l]
theorem toShardS_loop (m : Nat) (hm : 1048610 ≤ m) : ∀ (post pre z : List (List T)), (∀ r ∈ post, WtRow esShard r) → rowsBulk post ≤ 1048576 → z.length = post.length → (∀ r ∈ z, r.length = 5) → pre.length + post.length ≤ 1048576 →
    ∀ n, post.length < n → ∀ k0, laws_toShardS_L0_0 m n (.l (pre ++ post)) (.i pre.length) (.l (pre ++ z)) k0 = k0 (.l (pre ++ post))
  | [], pre, z, h, hb, hz, hz2, hs, n, hn, k0 => by
    obtain ⟨n, rfl⟩ : ∃ m', n = m' + 1 := ⟨n - 1, by omega⟩
    obtain rfl : z = [] := List.eq_nil_of_length_eq_zero hz
    simp only [laws_toShardS_L0_0, T.int_i, T.rows_l]
    rw [dec_f (by simp)]
  | x :: post, pre, z, h, hb, hz, hz2, hs, n, hn, k0 => by
    obtain ⟨n, rfl⟩ : ∃ m', n = m' + 1 := ⟨n - 1, by omega⟩
    simp only [List.length_cons] at hs hn hz
    match z, hz, hz2 with
    | r :: z, hz, hz2 =>
    simp only [List.length_cons] at hz
    match r, hz2 r (by simp) with
    | [c0, c1, c2, c3, c4], _ =>
    have ih := toShardS_loop m hm post (pre ++ [x]) z (fun r hr => h r (by simp [hr])) (by simp only [rowsBulk] at hb; omega) (by omega) (fun r hr => hz2 r (by simp [hr])) (by simp; omega) n (by omega) k0
    have hx := h x (by simp)
    simp only [esShard, WtRow, WtT] at hx
    obtain ⟨_, _, rfl, ⟨a0, rfl, -⟩, _, _, rfl, ⟨a1, rfl, h1⟩, _, _, rfl, ⟨a2, rfl, -⟩, _, _, rfl, ⟨a3, rfl, h3⟩, _, _, rfl, ⟨a4, rfl, h4⟩, rfl⟩ := hx
    simp only [rowsBulk, rowBulk, tbulk] at hb
    simp only [laws_toShardS_L0_0, T.int_i, T.rows_l, ix_row, ix_nx pre (by omega), set_row, List.getD_cons_zero, List.getD_cons_succ, List.set_cons_zero, List.set_cons_succ]
    rw [dec_t (by simp; omega), dec_t (by simp; omega)]
    rw [toShard_ok (by omega) a0 a1 a2 a3 a4 h1 (by omega) h3 (by omega) h4 (by omega), dec_t (by simp; omega), dec_t (by simp)]
    simpa using ih
theorem toShardS_ok {m : Nat} (hm : 1048611 ≤ m) (rows : List (List T)) (h : ∀ r ∈ rows, WtRow esShard r) (hb : rowsBulk rows ≤ 1048576) (k : T → An) : laws_toShardS m (.l rows) k = k (.l rows) := by
  obtain ⟨m, rfl⟩ : ∃ m', m = m' + 1 := ⟨m - 1, by omega⟩
  have hl := wtRows_len (by simp) h
  simp only [laws_toShardS, T.rows_l, T.int_i]
  rw [dec_t (by omega), dec_t (by unfold maxCells; omega)]
  exact toShardS_loop m (by omega) rows [] (List.replicate _ _) h hb (by simp) (fun r hr => by rw [List.eq_of_mem_replicate hr]; rfl) (by simp; omega) m (by omega) _
theorem szShard_ok {m : Nat} (hm : 1048610 ≤ m) (a0 : Int) (a1 : List (List T)) (a2 : Int) (a3 : List (List T)) (a4 : List (List T)) (h1 : ∀ r ∈ a1, WtRow esRec r) (b1 : rowsBulk a1 ≤ 1048576) (h3 : ∀ r ∈ a3, WtRow esPair r) (b3 : rowsBulk a3 ≤ 1048576) (h4 : ∀ r ∈ a4, WtRow esRec r) (b4 : rowsBulk a4 ≤ 1048576) (l : Int) (hl : (rowSz [.i a0, .l a1, .i a2, .l a3, .l a4] : Int) ≤ l) (hl2 : l ≤ 1048576) (k : T → An) : laws_szShard m (.i a0) (.l a1) (.i a2) (.l a3) (.l a4) (.i l) k = k (.i (l - (rowSz [.i a0, .l a1, .i a2, .l a3, .l a4] : Nat))) := by
  obtain ⟨m, rfl⟩ : ∃ m', m = m' + 1 := ⟨m - 1, by omega⟩
  simp only [rowSz, tsz] at hl ⊢
  simp only [laws_szShard, T.rows_l, T.int_i, T.str_s]
  rw [szRecS_ok (by omega) a1 h1 b1 l (by omega) (by omega), T.int_i, dec_f (by omega)]
  rw [szPairS_ok (by omega) a3 h3 b3 (l - ((a1.length + rowsSz a1 : Nat) : Int)) (by omega) (by omega), T.int_i, dec_f (by omega)]
  rw [szRecS_ok (by omega) a4 h4 b4 ((l - ((a1.length + rowsSz a1 : Nat) : Int)) - ((a3.length + rowsSz a3 : Nat) : Int)) (by omega) (by omega), T.int_i, dec_f (by omega)]
  congr 2; omega
theorem szShardS_loop (m : Nat) (hm : 1048610 ≤ m) : ∀ (post pre : List (List T)) (l : Int), (∀ r ∈ post, WtRow esShard r) → rowsBulk post ≤ 1048576 → (rowsSz post : Int) ≤ l → l ≤ 1048576 → pre.length + post.length ≤ 1048576 →
    ∀ n, post.length < n → ∀ k0 k1, laws_szShardS_L0_0 m n (.l (pre ++ post)) (.i l) (.i pre.length) k0 k1 = k1 (.i (l - rowsSz post))
  | [], pre, l, h, hb, hl, hl2, hs, n, hn, k0, k1 => by
    obtain ⟨n, rfl⟩ : ∃ m', n = m' + 1 := ⟨n - 1, by omega⟩
    simp only [laws_szShardS_L0_0, T.int_i, T.rows_l]
    rw [dec_f (by simp)]
    simp [rowsSz]
  | x :: post, pre, l, h, hb, hl, hl2, hs, n, hn, k0, k1 => by
    obtain ⟨n, rfl⟩ : ∃ m', n = m' + 1 := ⟨n - 1, by omega⟩
    simp only [List.length_cons] at hs hn
    simp only [rowsSz] at hl ⊢
    have ih := fun l hl hl2 => szShardS_loop m hm post (pre ++ [x]) l (fun r hr => h r (by simp [hr])) (by simp only [rowsBulk] at hb; omega) hl hl2 (by simp; omega) n (by omega) k0 k1
    have hx := h x (by simp)
    simp only [esShard, WtRow, WtT] at hx
    obtain ⟨_, _, rfl, ⟨a0, rfl, -⟩, _, _, rfl, ⟨a1, rfl, h1⟩, _, _, rfl, ⟨a2, rfl, -⟩, _, _, rfl, ⟨a3, rfl, h3⟩, _, _, rfl, ⟨a4, rfl, h4⟩, rfl⟩ := hx
    simp only [rowsBulk, rowBulk, tbulk] at hb
    simp only [laws_szShardS_L0_0, T.int_i, T.rows_l, ix_row, ix_nx pre (by omega), List.getD_cons_zero, List.getD_cons_succ]
    rw [dec_t (by simp; omega), dec_t (by simp; omega)]
    rw [szShard_ok (by omega) a0 a1 a2 a3 a4 h1 (by omega) h3 (by omega) h4 (by omega) l (by omega) hl2, T.int_i, dec_f (by omega)]
    have := ih (l - (rowSz [.i a0, .l a1, .i a2, .l a3, .l a4] : Nat)) (by omega) (by omega)
    simp only [List.append_assoc, List.cons_append, List.nil_append, len_snoc] at this
    refine this.trans ?_
    congr 2; omega
theorem szShardS_ok {m : Nat} (hm : 1048611 ≤ m) (rows : List (List T)) (h : ∀ r ∈ rows, WtRow esShard r) (hb : rowsBulk rows ≤ 1048576) (l : Int) (hl : ((rows.length + rowsSz rows : Nat) : Int) ≤ l) (hl2 : l ≤ 1048576) (k : T → An) : laws_szShardS m (.l rows) (.i l) k = k (.i (l - (rows.length + rowsSz rows : Nat))) := by
  obtain ⟨m, rfl⟩ : ∃ m', m = m' + 1 := ⟨m - 1, by omega⟩
  have hlen := wtRows_len (by simp) h
  simp only [laws_szShardS, T.rows_l, T.int_i]
  rw [show IntKind.i64.wrap (l - (rows.length : Int)) = l - (rows.length : Int) from wrap_i64 (by omega) (by omega), dec_f (by omega)]
  refine (szShardS_loop m (by omega) rows [] (l - rows.length) h hb (by omega) (by omega) (by simp; omega) m (by omega) _ _).trans ?_
  congr 2; omega
theorem eqShard_ok {m : Nat} (hm : 1048610 ≤ m) (a0 : Int) (a1 : List (List T)) (a2 : Int) (a3 : List (List T)) (a4 : List (List T)) (h1 : ∀ r ∈ a1, WtRow esRec r) (b1 : rowsBulk a1 ≤ 1048576) (h3 : ∀ r ∈ a3, WtRow esPair r) (b3 : rowsBulk a3 ≤ 1048576) (h4 : ∀ r ∈ a4, WtRow esRec r) (b4 : rowsBulk a4 ≤ 1048576) (k : T → An) : laws_eqShard m (.i a0) (.l a1) (.i a2) (.l a3) (.l a4) (.i a0) (.l a1) (.i a2) (.l a3) (.l a4) k = k (.b true) := by
  obtain ⟨m, rfl⟩ : ∃ m', m = m' + 1 := ⟨m - 1, by omega⟩
  simp only [laws_eqShard, T.rows_l, T.int_i, T.str_s, T.bool_b, bne_self_eq_false, beq_toList_self, beq_self_eq_true, Bool.not_true, cond_false, eqRecS_ok (m := m) (by omega) a1 h1 b1, eqPairS_ok (m := m) (by omega) a3 h3 b3, eqRecS_ok (m := m) (by omega) a4 h4 b4]
theorem eqShardS_loop (m : Nat) (hm : 1048610 ≤ m) : ∀ (post pre : List (List T)), (∀ r ∈ post, WtRow esShard r) → rowsBulk post ≤ 1048576 → pre.length + post.length ≤ 1048576 →
    ∀ n, post.length < n → ∀ k0 k1, laws_eqShardS_L0_0 m n (.l (pre ++ post)) (.l (pre ++ post)) (.i pre.length) k0 k1 = k1
  | [], pre, h, hb, hs, n, hn, k0, k1 => by
    obtain ⟨n, rfl⟩ : ∃ m', n = m' + 1 := ⟨n - 1, by omega⟩
    simp only [laws_eqShardS_L0_0, T.int_i, T.rows_l]
    rw [dec_f (by simp)]
  | x :: post, pre, h, hb, hs, n, hn, k0, k1 => by
    obtain ⟨n, rfl⟩ : ∃ m', n = m' + 1 := ⟨n - 1, by omega⟩
    simp only [List.length_cons] at hs hn
    have ih := eqShardS_loop m hm post (pre ++ [x]) (fun r hr => h r (by simp [hr])) (by simp only [rowsBulk] at hb; omega) (by simp; omega) n (by omega) k0 k1
    have hx := h x (by simp)
    simp only [esShard, WtRow, WtT] at hx
    obtain ⟨_, _, rfl, ⟨a0, rfl, -⟩, _, _, rfl, ⟨a1, rfl, h1⟩, _, _, rfl, ⟨a2, rfl, -⟩, _, _, rfl, ⟨a3, rfl, h3⟩, _, _, rfl, ⟨a4, rfl, h4⟩, rfl⟩ := hx
    simp only [rowsBulk, rowBulk, tbulk] at hb
    simp only [laws_eqShardS_L0_0, T.int_i, T.rows_l, ix_row, ix_nx pre (by omega), List.getD_cons_zero, List.getD_cons_succ]
    rw [dec_t (by simp; omega), dec_t (by simp; omega), dec_t (by simp; omega)]
    rw [eqShard_ok (by omega) a0 a1 a2 a3 a4 h1 (by omega) h3 (by omega) h4 (by omega)]
    simpa using ih
theorem eqShardS_ok {m : Nat} (hm : 1048611 ≤ m) (rows : List (List T)) (h : ∀ r ∈ rows, WtRow esShard r) (hb : rowsBulk rows ≤ 1048576) (k : T → An) : laws_eqShardS m (.l rows) (.l rows) k = k (.b true) := by
  obtain ⟨m, rfl⟩ : ∃ m', m = m' + 1 := ⟨m - 1, by omega⟩
  have hlen := wtRows_len (by simp) h
  simp only [laws_eqShardS, T.rows_l, T.int_i, bne_self_eq_false, cond_false]
  exact eqShardS_loop m (by omega) rows [] h hb (by simp; omega) m (by omega) _ _
abbrev esWord : List LT := [.sc (.int .i64), .sc (.int .i64), .sc (.int .i64), .sl esOp, .sc .bool]
theorem toWord_ok {m : Nat} (hm : 1048606 ≤ m) (a0 : Int) (a1 : Int) (a2 : Int) (a3 : List (List T)) (a4 : Bool) (h3 : ∀ r ∈ a3, WtRow esOp r) (b3 : rowsBulk a3 ≤ 1048576) (k : T → T → T → T → T → An) : laws_toWord m (.i a0) (.i a1) (.i a2) (.l a3) (.b a4) k = k (.i a0) (.i a1) (.i a2) (.l a3) (.b a4) := by
  obtain ⟨m, rfl⟩ : ∃ m', m = m' + 1 := ⟨m - 1, by omega⟩
  simp only [laws_toWord, T.rows_l]
  rw [toOpS_ok (by omega) a3 h3 b3]
  try simp only [T.rows_l]
theorem toWordS_loop (m : Nat) (hm : 1048606 ≤ m) : ∀ (post pre z : List (List T)), (∀ r ∈ post, WtRow esWord r) → rowsBulk post ≤ 1048576 → z.length = post.length → (∀ r ∈ z, r.length = 5) → pre.length + post.length ≤ 1048576 →
    ∀ n, post.length < n → ∀ k0, laws_toWordS_L0_0 m n (.l (pre ++ post)) (.i pre.length) (.l (pre ++ z)) k0 = k0 (.l (pre ++ post))
  | [], pre, z, h, hb, hz, hz2, hs, n, hn, k0 => by
    obtain ⟨n, rfl⟩ : ∃ m', n = m' + 1 := ⟨n - 1, by omega⟩
    obtain rfl : z = [] := List.eq_nil_of_length_eq_zero hz
    simp only [laws_toWordS_L0_0, T.int_i, T.rows_l]
    rw [dec_f (by simp)]
  | x :: post, pre, z, h, hb, hz, hz2, hs, n, hn, k0 => by
    obtain ⟨n, rfl⟩ : ∃ m', n = m' + 1 := ⟨n - 1, by omega⟩
    simp only [List.length_cons] at hs hn hz
    match z, hz, hz2 with
    | r :: z, hz, hz2 =>
    simp only [List.length_cons] at hz
    match r, hz2 r (by simp) with
    | [c0, c1, c2, c3, c4], _ =>
    have ih := toWordS_loop m hm post (pre ++ [x]) z (fun r hr => h r (by simp [hr])) (by simp only [rowsBulk] at hb; omega) (by omega) (fun r hr => hz2 r (by simp [hr])) (by simp; omega) n (by omega) k0
    have hx := h x (by simp)
    simp only [esWord, WtRow, WtT] at hx
    obtain ⟨_, _, rfl, ⟨a0, rfl, -⟩, _, _, rfl, ⟨a1, rfl, -⟩, _, _, rfl, ⟨a2, rfl, -⟩, _, _, rfl, ⟨a3, rfl, h3⟩, _, _, rfl, ⟨a4, rfl⟩, rfl⟩ := hx
    simp only [rowsBulk, rowBulk, tbulk] at hb
    simp only [laws_toWordS_L0_0, T.int_i, T.rows_l, ix_row, ix_nx pre (by omega), set_row, List.getD_cons_zero, List.getD_cons_succ, List.set_cons_zero, List.set_cons_succ]
    rw [dec_t (by simp; omega), dec_t (by simp; omega)]
    rw [toWord_ok (by omega) a0 a1 a2 a3 a4 h3 (by omega), dec_t (by simp; omega), dec_t (by simp)]
    simpa using ih
theorem toWordS_ok {m : Nat} (hm : 1048607 ≤ m) (rows : List (List T)) (h : ∀ r ∈ rows, WtRow esWord r) (hb : rowsBulk rows ≤ 1048576) (k : T → An) : laws_toWordS m (.l rows) k = k (.l rows) := by
  obtain ⟨m, rfl⟩ : ∃ m', m = m' + 1 := ⟨m - 1, by omega⟩
  have hl := wtRows_len (by simp) h
  simp only [laws_toWordS, T.rows_l, T.int_i]
  rw [dec_t (by omega), dec_t (by unfold maxCells; omega)]
  exact toWordS_loop m (by omega) rows [] (List.replicate _ _) h hb (by simp) (fun r hr => by rw [List.eq_of_mem_replicate hr]; rfl) (by simp; omega) m (by omega) _
theorem szWord_ok {m : Nat} (hm : 1048606 ≤ m) (a0 : Int) (a1 : Int) (a2 : Int) (a3 : List (List T)) (a4 : Bool) (h3 : ∀ r ∈ a3, WtRow esOp r) (b3 : rowsBulk a3 ≤ 1048576) (l : Int) (hl : (rowSz [.i a0, .i a1, .i a2, .l a3, .b a4] : Int) ≤ l) (hl2 : l ≤ 1048576) (k : T → An) : laws_szWord m (.i a0) (.i a1) (.i a2) (.l a3) (.b a4) (.i l) k = k (.i (l - (rowSz [.i a0, .i a1, .i a2, .l a3, .b a4] : Nat))) := by
  obtain ⟨m, rfl⟩ : ∃ m', m = m' + 1 := ⟨m - 1, by omega⟩
  simp only [rowSz, tsz] at hl ⊢
  simp only [laws_szWord, T.rows_l, T.int_i, T.str_s]
  rw [szOpS_ok (by omega) a3 h3 b3 l (by omega) (by omega), T.int_i, dec_f (by omega)]
  congr 2; omega
theorem szWordS_loop (m : Nat) (hm : 1048606 ≤ m) : ∀ (post pre : List (List T)) (l : Int), (∀ r ∈ post, WtRow esWord r) → rowsBulk post ≤ 1048576 → (rowsSz post : Int) ≤ l → l ≤ 1048576 → pre.length + post.length ≤ 1048576 →
    ∀ n, post.length < n → ∀ k0 k1, laws_szWordS_L0_0 m n (.l (pre ++ post)) (.i l) (.i pre.length) k0 k1 = k1 (.i (l - rowsSz post))
  | [], pre, l, h, hb, hl, hl2, hs, n, hn, k0, k1 => by
    obtain ⟨n, rfl⟩ : ∃ m', n = m' + 1 := ⟨n - 1, by omega⟩
    simp only [laws_szWordS_L0_0, T.int_i, T.rows_l]
    rw [dec_f (by simp)]
    simp [rowsSz]
  | x :: post, pre, l, h, hb, hl, hl2, hs, n, hn, k0, k1 => by
    obtain ⟨n, rfl⟩ : ∃ m', n = m' + 1 := ⟨n - 1, by omega⟩
    simp only [List.length_cons] at hs hn
    simp only [rowsSz] at hl ⊢
    have ih := fun l hl hl2 => szWordS_loop m hm post (pre ++ [x]) l (fun r hr => h r (by simp [hr])) (by simp only [rowsBulk] at hb; omega) hl hl2 (by simp; omega) n (by omega) k0 k1
    have hx := h x (by simp)
    simp only [esWord, WtRow, WtT] at hx
    obtain ⟨_, _, rfl, ⟨a0, rfl, -⟩, _, _, rfl, ⟨a1, rfl, -⟩, _, _, rfl, ⟨a2, rfl, -⟩, _, _, rfl, ⟨a3, rfl, h3⟩, _, _, rfl, ⟨a4, rfl⟩, rfl⟩ := hx
    simp only [rowsBulk, rowBulk, tbulk] at hb
    simp only [laws_szWordS_L0_0, T.int_i, T.rows_l, ix_row, ix_nx pre (by omega), List.getD_cons_zero, List.getD_cons_succ]
    rw [dec_t (by simp; omega), dec_t (by simp; omega)]
    rw [szWord_ok (by omega) a0 a1 a2 a3 a4 h3 (by omega) l (by omega) hl2, T.int_i, dec_f (by omega)]
    have := ih (l - (rowSz [.i a0, .i a1, .i a2, .l a3, .b a4] : Nat)) (by omega) (by omega)
    simp only [List.append_assoc, List.cons_append, List.nil_append, len_snoc] at this
    refine this.trans ?_
    congr 2; omega
theorem szWordS_ok {m : Nat} (hm : 1048607 ≤ m) (rows : List (List T)) (h : ∀ r ∈ rows, WtRow esWord r) (hb : rowsBulk rows ≤ 1048576) (l : Int) (hl : ((rows.length + rowsSz rows : Nat) : Int) ≤ l) (hl2 : l ≤ 1048576) (k : T → An) : laws_szWordS m (.l rows) (.i l) k = k (.i (l - (rows.length + rowsSz rows : Nat))) := by
  obtain ⟨m, rfl⟩ : ∃ m', m = m' + 1 := ⟨m - 1, by omega⟩
  have hlen := wtRows_len (by simp) h
  simp only [laws_szWordS, T.rows_l, T.int_i]
  rw [show IntKind.i64.wrap (l - (rows.length : Int)) = l - (rows.length : Int) from wrap_i64 (by omega) (by omega), dec_f (by omega)]
  refine (szWordS_loop m (by omega) rows [] (l - rows.length) h hb (by omega) (by omega) (by simp; omega) m (by omega) _ _).trans ?_
  congr 2; omega
theorem eqWord_ok {m : Nat} (hm : 1048606 ≤ m) (a0 : Int) (a1 : Int) (a2 : Int) (a3 : List (List T)) (a4 : Bool) (h3 : ∀ r ∈ a3, WtRow esOp r) (b3 : rowsBulk a3 ≤ 1048576) (k : T → An) : laws_eqWord m (.i a0) (.i a1) (.i a2) (.l a3) (.b a4) (.i a0) (.i a1) (.i a2) (.l a3) (.b a4) k = k (.b true) := by
  obtain ⟨m, rfl⟩ : ∃ m', m = m' + 1 := ⟨m - 1, by omega⟩
  simp only [laws_eqWord, T.rows_l, T.int_i, T.str_s, T.bool_b, bne_self_eq_false, beq_toList_self, beq_self_eq_true, Bool.not_true, cond_false, eqOpS_ok (m := m) (by omega) a3 h3 b3]
theorem eqWordS_loop (m : Nat) (hm : 1048606 ≤ m) : ∀ (post pre : List (List T)), (∀ r ∈ post, WtRow esWord r) → rowsBulk post ≤ 1048576 → pre.length + post.length ≤ 1048576 →
    ∀ n, post.length < n → ∀ k0 k1, laws_eqWordS_L0_0 m n (.l (pre ++ post)) (.l (pre ++ post)) (.i pre.length) k0 k1 = k1
  | [], pre, h, hb, hs, n, hn, k0, k1 => by
    obtain ⟨n, rfl⟩ : ∃ m', n = m' + 1 := ⟨n - 1, by omega⟩
    simp only [laws_eqWordS_L0_0, T.int_i, T.rows_l]
    rw [dec_f (by simp)]
  | x :: post, pre, h, hb, hs, n, hn, k0, k1 => by
    obtain ⟨n, rfl⟩ : ∃ m', n = m' + 1 := ⟨n - 1, by omega⟩
    simp only [List.length_cons] at hs hn
    have ih := eqWordS_loop m hm post (pre ++ [x]) (fun r hr => h r (by simp [hr])) (by simp only [rowsBulk] at hb; omega) (by simp; omega) n (by omega) k0 k1
    have hx := h x (by simp)
    simp only [esWord, WtRow, WtT] at hx
    obtain ⟨_, _, rfl, ⟨a0, rfl, -⟩, _, _, rfl, ⟨a1, rfl, -⟩, _, _, rfl, ⟨a2, rfl, -⟩, _, _, rfl, ⟨a3, rfl, h3⟩, _, _, rfl, ⟨a4, rfl⟩, rfl⟩ := hx
    simp only [rowsBulk, rowBulk, tbulk] at hb
    simp only [laws_eqWordS_L0_0, T.int_i, T.rows_l, ix_row, ix_nx pre (by omega), List.getD_cons_zero, List.getD_cons_succ]
    rw [dec_t (by simp; omega), dec_t (by simp; omega), dec_t (by simp; omega)]
    rw [eqWord_ok (by omega) a0 a1 a2 a3 a4 h3 (by omega)]
    simpa using ih
theorem eqWordS_ok {m : Nat} (hm : 1048607 ≤ m) (rows : List (List T)) (h : ∀ r ∈ rows, WtRow esWord r) (hb : rowsBulk rows ≤ 1048576) (k : T → An) : laws_eqWordS m (.l rows) (.l rows) k = k (.b true) := by
  obtain ⟨m, rfl⟩ : ∃ m', m = m' + 1 := ⟨m - 1, by omega⟩
  have hlen := wtRows_len (by simp) h
  simp only [laws_eqWordS, T.rows_l, T.int_i, bne_self_eq_false, cond_false]
  exact eqWordS_loop m (by omega) rows [] h hb (by simp; omega) m (by omega) _ _
abbrev esOrder : List LT := [.sc (.int .i64), .sl esOp]
theorem toOrder_ok {m : Nat} (hm : 1048606 ≤ m) (a0 : Int) (a1 : List (List T)) (h1 : ∀ r ∈ a1, WtRow esOp r) (b1 : rowsBulk a1 ≤ 1048576) (k : T → T → An) : laws_toOrder m (.i a0) (.l a1) k = k (.i a0) (.l a1) := by
  obtain ⟨m, rfl⟩ : ∃ m', m = m' + 1 := ⟨m - 1, by omega⟩
  simp only [laws_toOrder, T.rows_l]
  rw [toOpS_ok (by omega) a1 h1 b1]
  try simp only [T.rows_l]
theorem toOrderS_loop (m : Nat) (hm : 1048606 ≤ m) : ∀ (post pre z : List (List T)), (∀ r ∈ post, WtRow esOrder r) → rowsBulk post ≤ 1048576 → z.length = post.length → (∀ r ∈ z, r.length = 2) → pre.length + post.length ≤ 1048576 →
    ∀ n, post.length < n → ∀ k0, laws_toOrderS_L0_0 m n (.l (pre ++ post)) (.i pre.length) (.l (pre ++ z)) k0 = k0 (.l (pre ++ post))
  | [], pre, z, h, hb, hz, hz2, hs, n, hn, k0 => by
    obtain ⟨n, rfl⟩ : ∃ m', n = m' + 1 := ⟨n - 1, by omega⟩
    obtain rfl : z = [] := List.eq_nil_of_length_eq_zero hz
    simp only [laws_toOrderS_L0_0, T.int_i, T.rows_l]
    rw [dec_f (by simp)]
  | x :: post, pre, z, h, hb, hz, hz2, hs, n, hn, k0 => by
    obtain ⟨n, rfl⟩ : ∃ m', n = m' + 1 := ⟨n - 1, by omega⟩
    simp only [List.length_cons] at hs hn hz
    match z, hz, hz2 with
    | r :: z, hz, hz2 =>
    simp only [List.length_cons] at hz
    match r, hz2 r (by simp) with
    | [c0, c1], _ =>
    have ih := toOrderS_loop m hm post (pre ++ [x]) z (fun r hr => h r (by simp [hr])) (by simp only [rowsBulk] at hb; omega) (by omega) (fun r hr => hz2 r (by simp [hr])) (by simp; omega) n (by omega) k0
    have hx := h x (by simp)
    simp only [esOrder, WtRow, WtT] at hx
    obtain ⟨_, _, rfl, ⟨a0, rfl, -⟩, _, _, rfl, ⟨a1, rfl, h1⟩, rfl⟩ := hx
    simp only [rowsBulk, rowBulk, tbulk] at hb
    simp only [laws_toOrderS_L0_0, T.int_i, T.rows_l, ix_row, ix_nx pre (by omega), set_row, List.getD_cons_zero, List.getD_cons_succ, List.set_cons_zero, List.set_cons_succ]
    rw [dec_t (by simp; omega), dec_t (by simp; omega)]
    rw [toOrder_ok (by omega) a0 a1 h1 (by omega), dec_t (by simp; omega), dec_t (by simp)]
    simpa using ih
theorem toOrderS_ok {m : Nat} (hm : 1048607 ≤ m) (rows : List (List T)) (h : ∀ r ∈ rows, WtRow esOrder r) (hb : rowsBulk rows ≤ 1048576) (k : T → An) : laws_toOrderS m (.l rows) k = k (.l rows) := by
  obtain ⟨m, rfl⟩ : ∃ m', m = m' + 1 := ⟨m - 1, by omega⟩
  have hl := wtRows_len (by simp) h
  simp only [laws_toOrderS, T.rows_l, T.int_i]
  rw [dec_t (by omega), dec_t (by unfold maxCells; omega)]
  exact toOrderS_loop m (by omega) rows [] (List.replicate _ _) h hb (by simp) (fun r hr => by rw [List.eq_of_mem_replicate hr]; rfl) (by simp; omega) m (by omega) _
theorem szOrder_ok {m : Nat} (hm : 1048606 ≤ m) (a0 : Int) (a1 : List (List T)) (h1 : ∀ r ∈ a1, WtRow esOp r) (b1 : rowsBulk a1 ≤ 1048576) (l : Int) (hl : (rowSz [.i a0, .l a1] : Int) ≤ l) (hl2 : l ≤ 1048576) (k : T → An) : laws_szOrder m (.i a0) (.l a1) (.i l) k = k (.i (l - (rowSz [.i a0, .l a1] : Nat))) := by
  obtain ⟨m, rfl⟩ : ∃ m', m = m' + 1 := ⟨m - 1, by omega⟩
  simp only [rowSz, tsz] at hl ⊢
  simp only [laws_szOrder, T.rows_l, T.int_i, T.str_s]
  rw [szOpS_ok (by omega) a1 h1 b1 l (by omega) (by omega), T.int_i, dec_f (by omega)]
  congr 2; omega
theorem szOrderS_loop (m : Nat) (hm : 1048606 ≤ m) : ∀ (post pre : List (List T)) (l : Int), (∀ r ∈ post, WtRow esOrder r) → rowsBulk post ≤ 1048576 → (rowsSz post : Int) ≤ l → l ≤ 1048576 → pre.length + post.length ≤ 1048576 →
    ∀ n, post.length < n → ∀ k0 k1, laws_szOrderS_L0_0 m n (.l (pre ++ post)) (.i l) (.i pre.length) k0 k1 = k1 (.i (l - rowsSz post))
  | [], pre, l, h, hb, hl, hl2, hs, n, hn, k0, k1 => by
    obtain ⟨n, rfl⟩ : ∃ m', n = m' + 1 := ⟨n - 1, by omega⟩
    simp only [laws_szOrderS_L0_0, T.int_i, T.rows_l]
    rw [dec_f (by simp)]
    simp [rowsSz]
  | x :: post, pre, l, h, hb, hl, hl2, hs, n, hn, k0, k1 => by
    obtain ⟨n, rfl⟩ : ∃ m', n = m' + 1 := ⟨n - 1, by omega⟩
    simp only [List.length_cons] at hs hn
    simp only [rowsSz] at hl ⊢
    have ih := fun l hl hl2 => szOrderS_loop m hm post (pre ++ [x]) l (fun r hr => h r (by simp [hr])) (by simp only [rowsBulk] at hb; omega) hl hl2 (by simp; omega) n (by omega) k0 k1
    have hx := h x (by simp)
    simp only [esOrder, WtRow, WtT] at hx
    obtain ⟨_, _, rfl, ⟨a0, rfl, -⟩, _, _, rfl, ⟨a1, rfl, h1⟩, rfl⟩ := hx
    simp only [rowsBulk, rowBulk, tbulk] at hb
    simp only [laws_szOrderS_L0_0, T.int_i, T.rows_l, ix_row, ix_nx pre (by omega), List.getD_cons_zero, List.getD_cons_succ]
    rw [dec_t (by simp; omega), dec_t (by simp; omega)]
    rw [szOrder_ok (by omega) a0 a1 h1 (by omega) l (by omega) hl2, T.int_i, dec_f (by omega)]
    have := ih (l - (rowSz [.i a0, .l a1] : Nat)) (by omega) (by omega)
    simp only [List.append_assoc, List.cons_append, List.nil_append, len_snoc] at this
    refine this.trans ?_
    congr 2; omega
theorem szOrderS_ok {m : Nat} (hm : 1048607 ≤ m) (rows : List (List T)) (h : ∀ r ∈ rows, WtRow esOrder r) (hb : rowsBulk rows ≤ 1048576) (l : Int) (hl : ((rows.length + rowsSz rows : Nat) : Int) ≤ l) (hl2 : l ≤ 1048576) (k : T → An) : laws_szOrderS m (.l rows) (.i l) k = k (.i (l - (rows.length + rowsSz rows : Nat))) := by
  obtain ⟨m, rfl⟩ : ∃ m', m = m' + 1 := ⟨m - 1, by omega⟩
  have hlen := wtRows_len (by simp) h
  simp only [laws_szOrderS, T.rows_l, T.int_i]
  rw [show IntKind.i64.wrap (l - (rows.length : Int)) = l - (rows.length : Int) from wrap_i64 (by omega) (by omega), dec_f (by omega)]
  refine (szOrderS_loop m (by omega) rows [] (l - rows.length) h hb (by omega) (by omega) (by simp; omega) m (by omega) _ _).trans ?_
  congr 2; omega
theorem eqOrder_ok {m : Nat} (hm : 1048606 ≤ m) (a0 : Int) (a1 : List (List T)) (h1 : ∀ r ∈ a1, WtRow esOp r) (b1 : rowsBulk a1 ≤ 1048576) (k : T → An) : laws_eqOrder m (.i a0) (.l a1) (.i a0) (.l a1) k = k (.b true) := by
  obtain ⟨m, rfl⟩ : ∃ m', m = m' + 1 := ⟨m - 1, by omega⟩
  simp only [laws_eqOrder, T.rows_l, T.int_i, T.str_s, T.bool_b, bne_self_eq_false, beq_toList_self, beq_self_eq_true, Bool.not_true, cond_false, eqOpS_ok (m := m) (by omega) a1 h1 b1]
theorem eqOrderS_loop (m : Nat) (hm : 1048606 ≤ m) : ∀ (post pre : List (List T)), (∀ r ∈ post, WtRow esOrder r) → rowsBulk post ≤ 1048576 → pre.length + post.length ≤ 1048576 →
    ∀ n, post.length < n → ∀ k0 k1, laws_eqOrderS_L0_0 m n (.l (pre ++ post)) (.l (pre ++ post)) (.i pre.length) k0 k1 = k1
  | [], pre, h, hb, hs, n, hn, k0, k1 => by
    obtain ⟨n, rfl⟩ : ∃ m', n = m' + 1 := ⟨n - 1, by omega⟩
    simp only [laws_eqOrderS_L0_0, T.int_i, T.rows_l]
    rw [dec_f (by simp)]
  | x :: post, pre, h, hb, hs, n, hn, k0, k1 => by
    obtain ⟨n, rfl⟩ : ∃ m', n = m' + 1 := ⟨n - 1, by omega⟩
    simp only [List.length_cons] at hs hn
    have ih := eqOrderS_loop m hm post (pre ++ [x]) (fun r hr => h r (by simp [hr])) (by simp only [rowsBulk] at hb; omega) (by simp; omega) n (by omega) k0 k1
    have hx := h x (by simp)
    simp only [esOrder, WtRow, WtT] at hx
    obtain ⟨_, _, rfl, ⟨a0, rfl, -⟩, _, _, rfl, ⟨a1, rfl, h1⟩, rfl⟩ := hx
    simp only [rowsBulk, rowBulk, tbulk] at hb
    simp only [laws_eqOrderS_L0_0, T.int_i, T.rows_l, ix_row, ix_nx pre (by omega), List.getD_cons_zero, List.getD_cons_succ]
    rw [dec_t (by simp; omega), dec_t (by simp; omega), dec_t (by simp; omega)]
    rw [eqOrder_ok (by omega) a0 a1 h1 (by omega)]
    simpa using ih
theorem eqOrderS_ok {m : Nat} (hm : 1048607 ≤ m) (rows : List (List T)) (h : ∀ r ∈ rows, WtRow esOrder r) (hb : rowsBulk rows ≤ 1048576) (k : T → An) : laws_eqOrderS m (.l rows) (.l rows) k = k (.b true) := by
  obtain ⟨m, rfl⟩ : ∃ m', m = m' + 1 := ⟨m - 1, by omega⟩
  have hlen := wtRows_len (by simp) h
  simp only [laws_eqOrderS, T.rows_l, T.int_i, bne_self_eq_false, cond_false]
  exact eqOrderS_loop m (by omega) rows [] h hb (by simp; omega) m (by omega) _ _
abbrev esWorld : List LT := [.sc (.int .i64), .sc (.int .i64), .sc (.int .i64), .sl esJob, .sl esChoice, .sc (.int .i64), .sl esShard, .sl esWord, .sl esWord, .sl esOrder]
theorem toWorld_ok {m : Nat} (hm : 1048614 ≤ m) (a0 : Int) (a1 : Int) (a2 : Int) (a3 : List (List T)) (a4 : List (List T)) (a5 : Int) (a6 : List (List T)) (a7 : List (List T)) (a8 : List (List T)) (a9 : List (List T)) (h3 : ∀ r ∈ a3, WtRow esJob r) (b3 : rowsBulk a3 ≤ 1048576) (h4 : ∀ r ∈ a4, WtRow esChoice r) (b4 : rowsBulk a4 ≤ 1048576) (h6 : ∀ r ∈ a6, WtRow esShard r) (b6 : rowsBulk a6 ≤ 1048576) (h7 : ∀ r ∈ a7, WtRow esWord r) (b7 : rowsBulk a7 ≤ 1048576) (h8 : ∀ r ∈ a8, WtRow esWord r) (b8 : rowsBulk a8 ≤ 1048576) (h9 : ∀ r ∈ a9, WtRow esOrder r) (b9 : rowsBulk a9 ≤ 1048576) (k : T → T → T → T → T → T → T → T → T → T → An) : laws_toWorld m (.i a0) (.i a1) (.i a2) (.l a3) (.l a4) (.i a5) (.l a6) (.l a7) (.l a8) (.l a9) k = k (.i a0) (.i a1) (.i a2) (.l a3) (.l a4) (.i a5) (.l a6) (.l a7) (.l a8) (.l a9) := by
  obtain ⟨m, rfl⟩ : ∃ m', m = m' + 1 := ⟨m - 1, by omega⟩
  simp only [laws_toWorld, T.rows_l]
  rw [toCoord_ok (by omega) a0 a1 a2 a3 a4 a5 h3 b3 h4 b4]
  simp only [T.rows_l]
  rw [toShardS_ok (by omega) a6 h6 b6]
  try simp only [T.rows_l]
  rw [toWordS_ok (by omega) a7 h7 b7]
  try simp only [T.rows_l]
  rw [toWordS_ok (by omega) a8 h8 b8]
  try simp only [T.rows_l]
  rw [toOrderS_ok (by omega) a9 h9 b9]
  try simp only [T.rows_l]
theorem szWorld_ok {m : Nat} (hm : 1048614 ≤ m) (a0 : Int) (a1 : Int) (a2 : Int) (a3 : List (List T)) (a4 : List (List T)) (a5 : Int) (a6 : List (List T)) (a7 : List (List T)) (a8 : List (List T)) (a9 : List (List T)) (h3 : ∀ r ∈ a3, WtRow esJob r) (b3 : rowsBulk a3 ≤ 1048576) (h4 : ∀ r ∈ a4, WtRow esChoice r) (b4 : rowsBulk a4 ≤ 1048576) (h6 : ∀ r ∈ a6, WtRow esShard r) (b6 : rowsBulk a6 ≤ 1048576) (h7 : ∀ r ∈ a7, WtRow esWord r) (b7 : rowsBulk a7 ≤ 1048576) (h8 : ∀ r ∈ a8, WtRow esWord r) (b8 : rowsBulk a8 ≤ 1048576) (h9 : ∀ r ∈ a9, WtRow esOrder r) (b9 : rowsBulk a9 ≤ 1048576) (l : Int) (hl : (rowSz [.i a0, .i a1, .i a2, .l a3, .l a4, .i a5, .l a6, .l a7, .l a8, .l a9] : Int) ≤ l) (hl2 : l ≤ 1048576) (k : T → An) : laws_szWorld m (.i a0) (.i a1) (.i a2) (.l a3) (.l a4) (.i a5) (.l a6) (.l a7) (.l a8) (.l a9) (.i l) k = k (.i (l - (rowSz [.i a0, .i a1, .i a2, .l a3, .l a4, .i a5, .l a6, .l a7, .l a8, .l a9] : Nat))) := by
  obtain ⟨m, rfl⟩ : ∃ m', m = m' + 1 := ⟨m - 1, by omega⟩
  simp only [rowSz, tsz] at hl ⊢
  simp only [laws_szWorld, T.rows_l, T.int_i, T.str_s]
  have ec : rowSz [.i a0, .i a1, .i a2, .l a3, .l a4, .i a5] = a3.length + rowsSz a3 + (a4.length + rowsSz a4) := by simp only [rowSz, tsz]; omega
  rw [szCoord_ok (by omega) a0 a1 a2 a3 a4 a5 h3 b3 h4 b4 l (by omega) (by omega), T.int_i, dec_f (by omega)]
  rw [szShardS_ok (by omega) a6 h6 b6 (l - (rowSz [.i a0, .i a1, .i a2, .l a3, .l a4, .i a5] : Nat)) (by omega) (by omega), T.int_i, dec_f (by omega)]
  rw [szWordS_ok (by omega) a7 h7 b7 ((l - (rowSz [.i a0, .i a1, .i a2, .l a3, .l a4, .i a5] : Nat)) - ((a6.length + rowsSz a6 : Nat) : Int)) (by omega) (by omega), T.int_i, dec_f (by omega)]
  rw [szWordS_ok (by omega) a8 h8 b8 (((l - (rowSz [.i a0, .i a1, .i a2, .l a3, .l a4, .i a5] : Nat)) - ((a6.length + rowsSz a6 : Nat) : Int)) - ((a7.length + rowsSz a7 : Nat) : Int)) (by omega) (by omega), T.int_i, dec_f (by omega)]
  rw [szOrderS_ok (by omega) a9 h9 b9 ((((l - (rowSz [.i a0, .i a1, .i a2, .l a3, .l a4, .i a5] : Nat)) - ((a6.length + rowsSz a6 : Nat) : Int)) - ((a7.length + rowsSz a7 : Nat) : Int)) - ((a8.length + rowsSz a8 : Nat) : Int)) (by omega) (by omega), T.int_i, dec_f (by omega)]
  congr 2; omega
theorem eqWorld_ok {m : Nat} (hm : 1048614 ≤ m) (a0 : Int) (a1 : Int) (a2 : Int) (a3 : List (List T)) (a4 : List (List T)) (a5 : Int) (a6 : List (List T)) (a7 : List (List T)) (a8 : List (List T)) (a9 : List (List T)) (h3 : ∀ r ∈ a3, WtRow esJob r) (b3 : rowsBulk a3 ≤ 1048576) (h4 : ∀ r ∈ a4, WtRow esChoice r) (b4 : rowsBulk a4 ≤ 1048576) (h6 : ∀ r ∈ a6, WtRow esShard r) (b6 : rowsBulk a6 ≤ 1048576) (h7 : ∀ r ∈ a7, WtRow esWord r) (b7 : rowsBulk a7 ≤ 1048576) (h8 : ∀ r ∈ a8, WtRow esWord r) (b8 : rowsBulk a8 ≤ 1048576) (h9 : ∀ r ∈ a9, WtRow esOrder r) (b9 : rowsBulk a9 ≤ 1048576) (k : T → An) : laws_eqWorld m (.i a0) (.i a1) (.i a2) (.l a3) (.l a4) (.i a5) (.l a6) (.l a7) (.l a8) (.l a9) (.i a0) (.i a1) (.i a2) (.l a3) (.l a4) (.i a5) (.l a6) (.l a7) (.l a8) (.l a9) k = k (.b true) := by
  obtain ⟨m, rfl⟩ : ∃ m', m = m' + 1 := ⟨m - 1, by omega⟩
  simp only [laws_eqWorld, T.rows_l, T.int_i, T.str_s, T.bool_b, bne_self_eq_false, beq_toList_self, beq_self_eq_true, Bool.not_true, cond_false, eqCoord_ok (m := m) (by omega) a0 a1 a2 a3 a4 a5 h3 b3 h4 b4, eqShardS_ok (m := m) (by omega) a6 h6 b6, eqWordS_ok (m := m) (by omega) a7 h7 b7, eqWordS_ok (m := m) (by omega) a8 h8 b8, eqOrderS_ok (m := m) (by omega) a9 h9 b9]
end Go.Proofs.Ytmhiklfijdpebaa

namespace Go.Proofs.Ytmhiklfijdpebaa
open Go Go.E Go.Proofs
def hashN (h : Nat) : List UInt8 → Nat
  | [] => h
  | b :: r => hashN (((h ^^^ b.toNat) * 16777619) % 4294967296) r
theorem wrap_u32 (x : Nat) : IntKind.u32.wrap (x : Int) = ((x % 4294967296 : Nat) : Int) := by
  have e32 : (2 : Int) ^ 32 = 4294967296 := by decide
  simp only [IntKind.wrap, IntKind.bits, IntKind.signed, Bool.false_and, Bool.false_eq_true, if_false, e32]
  omega
theorem ofInt_nat (w x : Nat) : BitVec.ofInt w (x : Int) = BitVec.ofNat w x := by simp
theorem xor_lt32 {a b : Nat} (ha : a < 4294967296) (hb : b < 4294967296) : a ^^^ b < 4294967296 := Nat.xor_lt_two_pow (n := 32) ha hb
theorem step32 (h : Nat) (hh : h < 4294967296) (b : UInt8) :
    IntKind.u32.wrap ((bvBack .u32 (BitVec.ofInt IntKind.u32.bits (h : Int) ^^^ BitVec.ofInt IntKind.u32.bits (IntKind.u32.wrap (b.toNat : Int)))).int * 16777619) = ((((h ^^^ b.toNat) * 16777619) % 4294967296 : Nat) : Int) := by
  have hb := b.toNat_lt
  have e1 : b.toNat % 4294967296 = b.toNat := Nat.mod_eq_of_lt (by omega)
  have hx := xor_lt32 hh (show b.toNat < 4294967296 by omega)
  simp only [bvBack, T.int_i, wrap_u32, e1, ofInt_nat]
  have e2 : (BitVec.ofNat IntKind.u32.bits h ^^^ BitVec.ofNat IntKind.u32.bits b.toNat).toNat = h ^^^ b.toNat := by
    rw [BitVec.toNat_xor, BitVec.toNat_ofNat, BitVec.toNat_ofNat]
    show (h % 2 ^ 32) ^^^ (b.toNat % 2 ^ 32) = _
    rw [Nat.mod_eq_of_lt (by simpa using hh), Nat.mod_eq_of_lt (by omega)]
  rw [e2, Nat.mod_eq_of_lt hx, show (((h ^^^ b.toNat : Nat) : Int) * 16777619) = (((h ^^^ b.toNat) * 16777619 : Nat) : Int) by rw [Int.natCast_mul]; rfl, wrap_u32]
theorem step64 (h : Nat) (hh : h < 4294967296) (b : UInt8) :
    bvBack .i64 (BitVec.ofInt IntKind.i64.bits (IntKind.i64.wrap ((bvBack .i64 (BitVec.ofInt IntKind.i64.bits (h : Int) ^^^ BitVec.ofInt IntKind.i64.bits (IntKind.i64.wrap (b.toNat : Int)))).int * 16777619)) &&& BitVec.ofInt IntKind.i64.bits 4294967295) =
      .i ((((h ^^^ b.toNat) * 16777619) % 4294967296 : Nat) : Int) := by
  have hb := b.toNat_lt
  have hx := xor_lt32 hh (show b.toNat < 4294967296 by omega)
  rw [wrap_i64 (x := (b.toNat : Int)) (by omega) (by omega)]
  have e2 : (BitVec.ofInt IntKind.i64.bits (h : Int) ^^^ BitVec.ofInt IntKind.i64.bits (b.toNat : Int)).toNat = h ^^^ b.toNat := by
    rw [ofInt_nat, ofInt_nat, BitVec.toNat_xor, BitVec.toNat_ofNat, BitVec.toNat_ofNat]
    show (h % 2 ^ 64) ^^^ (b.toNat % 2 ^ 64) = _
    rw [Nat.mod_eq_of_lt (by omega), Nat.mod_eq_of_lt (by omega)]
  simp only [bvBack, T.int_i, e2]
  rw [wrap_i64 (x := ((h ^^^ b.toNat : Nat) : Int)) (by omega) (by omega), show (((h ^^^ b.toNat : Nat) : Int) * 16777619) = (((h ^^^ b.toNat) * 16777619 : Nat) : Int) by rw [Int.natCast_mul]; rfl,
    wrap_i64 (x := (((h ^^^ b.toNat) * 16777619 : Nat) : Int)) (by omega) (by omega)]
  have e3 : (BitVec.ofInt IntKind.i64.bits (((h ^^^ b.toNat) * 16777619 : Nat) : Int) &&& BitVec.ofInt IntKind.i64.bits 4294967295).toNat = ((h ^^^ b.toNat) * 16777619) % 4294967296 := by
    rw [ofInt_nat, show (4294967295 : Int) = ((4294967295 : Nat) : Int) from rfl, ofInt_nat, BitVec.toNat_and, BitVec.toNat_ofNat, BitVec.toNat_ofNat]
    show (((h ^^^ b.toNat) * 16777619) % 2 ^ 64) &&& (4294967295 % 2 ^ 64) = _
    rw [Nat.mod_eq_of_lt (by omega)]
    exact Nat.and_two_pow_sub_one_eq_mod _ 32
  rw [e3]
  rw [wrap_i64 (by omega) (by omega)]
theorem ix_byte (pre : List UInt8) (x : UInt8) (post : List UInt8) : (pre ++ x :: post).getD (Int.toNat (pre.length : Int)) 0 = x := by simp [List.getD]
theorem implHash_loop (m : Nat) (s : ByteArray) (hs : s.size ≤ 4611686018427387904) : ∀ (post pre : List UInt8) (h : Nat), h < 4294967296 → s.data.toList = pre ++ post → ∀ n, post.length < n → ∀ k0,
    impl_Hash_L0_0 m n (.s s) (.i h) (.i pre.length) k0 = k0 (.i (hashN h post : Nat))
  | [], pre, h, hh, e, n, hn, k0 => by
    obtain ⟨n, rfl⟩ : ∃ m', n = m' + 1 := ⟨n - 1, by omega⟩
    have hz := ba_size s
    rw [e] at hz
    simp only [impl_Hash_L0_0, T.int_i, T.str_s]
    rw [dec_f (by simp at hz; omega)]
    rfl
  | x :: post, pre, h, hh, e, n, hn, k0 => by
    obtain ⟨n, rfl⟩ : ∃ m', n = m' + 1 := ⟨n - 1, by omega⟩
    have hz := ba_size s
    rw [e] at hz
    simp only [List.length_append, List.length_cons] at hz hn
    simp only [impl_Hash_L0_0, T.int_i, T.str_s, e, ix_byte, ix_nx pre (by omega), step32 h hh x]
    rw [dec_t (by omega), dec_t (by omega)]
    have ih := implHash_loop m s hs post (pre ++ [x]) _ (Nat.mod_lt ((h ^^^ x.toNat) * 16777619) (by omega)) (by rw [e]; simp) n (by omega) k0
    rw [len_snoc] at ih
    exact ih
theorem specHash_loop (m : Nat) (s : ByteArray) (hs : s.size ≤ 4611686018427387904) : ∀ (post pre : List UInt8) (h : Nat), h < 4294967296 → s.data.toList = pre ++ post → ∀ n, post.length < n → ∀ k0,
    spec_Hash_L0_0 m n (.s s) (.i h) (.i pre.length) k0 = k0 (.i (hashN h post : Nat))
  | [], pre, h, hh, e, n, hn, k0 => by
    obtain ⟨n, rfl⟩ : ∃ m', n = m' + 1 := ⟨n - 1, by omega⟩
    have hz := ba_size s
    rw [e] at hz
    simp only [spec_Hash_L0_0, T.int_i, T.str_s]
    rw [dec_f (by simp at hz; omega)]
    rfl
  | x :: post, pre, h, hh, e, n, hn, k0 => by
    obtain ⟨n, rfl⟩ : ∃ m', n = m' + 1 := ⟨n - 1, by omega⟩
    have hz := ba_size s
    rw [e] at hz
    simp only [List.length_append, List.length_cons] at hz hn
    simp only [spec_Hash_L0_0, T.int_i, T.str_s, e, ix_byte, ix_nx pre (by omega), step64 h hh x]
    rw [dec_t (by omega), dec_t (by omega)]
    have ih := specHash_loop m s hs post (pre ++ [x]) _ (Nat.mod_lt ((h ^^^ x.toNat) * 16777619) (by omega)) (by rw [e]; simp) n (by omega) k0
    rw [len_snoc] at ih
    exact ih
theorem hashN_lt : ∀ (l : List UInt8) (h : Nat), h < 4294967296 → hashN h l < 4294967296
  | [], h, hh => hh
  | b :: r, h, hh => hashN_lt r _ (Nat.mod_lt _ (by omega))
def hashP (s : ByteArray) : Nat := hashN 2166136261 s.data.toList
theorem hashP_lt (s : ByteArray) : hashP s < 4294967296 := hashN_lt _ _ (by omega)
theorem implHash_ok {m : Nat} (s : ByteArray) (hs : s.size ≤ 1048576) (hm : 1048580 ≤ m) (k : T → An) : impl_Hash m (.s s) k = k (.i (hashP s : Nat)) := by
  obtain ⟨m, rfl⟩ : ∃ m', m = m' + 1 := ⟨m - 1, by omega⟩
  have hz := ba_size s
  have hl := hashP_lt s
  refine (implHash_loop m s (by omega) s.data.toList [] 2166136261 (by omega) rfl m (by omega) _).trans ?_
  rw [T.int_i]
  exact congrArg (fun x => k (T.i x)) (wrap_i64 (x := (hashP s : Nat)) (by omega) (by omega))
theorem specHash_ok {m : Nat} (s : ByteArray) (hs : s.size ≤ 1048576) (hm : 1048580 ≤ m) (k : T → An) : spec_Hash m (.s s) k = k (.i (hashP s : Nat)) := by
  obtain ⟨m, rfl⟩ : ∃ m', m = m' + 1 := ⟨m - 1, by omega⟩
  have hz := ba_size s
  exact specHash_loop m s (by omega) s.data.toList [] 2166136261 (by omega) rfl m (by omega) _
/-- ShardOf -/
def shardP (s : ByteArray) (n : Int) : Nat := if n < 1 then 0 else hashP s % n.toNat
theorem shardP_lt (s : ByteArray) (n : Int) : shardP s n < 4294967296 := by
  unfold shardP
  split
  · omega
  · exact Nat.lt_of_le_of_lt (Nat.mod_le _ _) (hashP_lt s)
theorem implShard_ok {m : Nat} (s : ByteArray) (n : Int) (hs : s.size ≤ 1048576) (hm : 1048585 ≤ m) (k : T → An) : impl_ShardOf m (.s s) (.i n) k = k (.i (shardP s n : Nat)) := by
  obtain ⟨m, rfl⟩ : ∃ m', m = m' + 1 := ⟨m - 1, by omega⟩
  simp only [impl_ShardOf, T.int_i]
  unfold shardP
  by_cases h : n < 1
  · rw [dec_t h, if_pos h]; rfl
  · obtain ⟨j, rfl⟩ : ∃ j : Nat, n = j := ⟨n.toNat, by omega⟩
    rw [dec_f h, implHash_ok s hs (by omega), if_neg h, cond_t (by simp; omega)]
    rw [T.int_i, ← Int.ofNat_tmod]; rfl
theorem specShard_ok {m : Nat} (s : ByteArray) (n : Int) (hs : s.size ≤ 1048576) (hm : 1048585 ≤ m) (k : T → An) : spec_ShardOf m (.s s) (.i n) k = k (.i (shardP s n : Nat)) := by
  obtain ⟨m, rfl⟩ : ∃ m', m = m' + 1 := ⟨m - 1, by omega⟩
  simp only [spec_ShardOf, T.int_i]
  unfold shardP
  by_cases h : n < 1
  · rw [dec_t h, if_pos h]; rfl
  · obtain ⟨j, rfl⟩ : ∃ j : Nat, n = j := ⟨n.toNat, by omega⟩
    rw [dec_f h, specHash_ok s hs (by omega), if_neg h, cond_t (by simp; omega)]
    rw [T.int_i, ← Int.ofNat_tmod]; rfl
end Go.Proofs.Ytmhiklfijdpebaa

namespace Go.Proofs.Ytmhiklfijdpebaa
open Go Go.E Go.Proofs
/-! lists of numbers in order, each once -/
theorem sorted_ext : ∀ {l l' : List Int}, l.Pairwise (· < ·) → l'.Pairwise (· < ·) → (∀ x, x ∈ l ↔ x ∈ l') → l = l'
  | [], [], _, _, _ => rfl
  | [], b :: l', _, _, h => by have := (h b).2 (by simp); cases this
  | a :: l, [], _, _, h => by have := (h a).1 (by simp); cases this
  | a :: l, b :: l', h1, h2, h => by
    rw [List.pairwise_cons] at h1 h2
    have hab : a = b := by
      have ha := (h a).1 (by simp)
      have hb := (h b).2 (by simp)
      rcases List.mem_cons.1 ha with e | ha
      · exact e
      · rcases List.mem_cons.1 hb with e | hb
        · exact e.symm
        · have := h1.1 b hb; have := h2.1 a ha; omega
    subst hab
    congr 1
    refine sorted_ext h1.2 h2.2 fun x => ⟨fun hx => ?_, fun hx => ?_⟩
    · rcases List.mem_cons.1 ((h x).1 (List.mem_cons_of_mem _ hx)) with e | hx'
      · subst e; have := h1.1 x hx; omega
      · exact hx'
    · rcases List.mem_cons.1 ((h x).2 (List.mem_cons_of_mem _ hx)) with e | hx'
      · subst e; have := h2.1 x hx; omega
      · exact hx'
/-- where a number goes: 'r': what is ahead, the last first -/
def putS (n : Int) : List Int → List Int → List Int
  | [], s => n :: s
  | p :: r, s => if p > n then putS n r (p :: s) else (p :: r).reverse ++ n :: s
theorem putS_mem (n x : Int) : ∀ (r s : List Int), x ∈ putS n r s ↔ x = n ∨ x ∈ r ∨ x ∈ s
  | [], s => by simp [putS]
  | p :: r, s => by
    unfold putS
    split
    · rw [putS_mem n x r (p :: s)]; simp only [List.mem_cons]; grind
    · simp only [List.mem_append, List.mem_reverse, List.mem_cons]; grind
theorem putS_sorted (n : Int) : ∀ (r s : List Int), (r.reverse ++ s).Pairwise (· < ·) → n ∉ r → (∀ x ∈ s, n < x) → (putS n r s).Pairwise (· < ·)
  | [], s, h, _, hs => by
    simp only [putS, List.pairwise_cons]
    exact ⟨hs, by simpa using h⟩
  | p :: r, s, h, hn, hs => by
    simp only [List.mem_cons, not_or] at hn
    unfold putS
    split
    · rename_i hp
      refine putS_sorted n r (p :: s) (by simpa using h) hn.2 fun x hx => ?_
      rcases List.mem_cons.1 hx with rfl | hx
      · exact hp
      · exact hs x hx
    · rename_i hp
      rw [List.pairwise_append] at h ⊢
      have h0 := h.1
      rw [List.reverse_cons, List.pairwise_append] at h0
      refine ⟨h.1, List.pairwise_cons.2 ⟨hs, h.2.1⟩, fun a ha b hb => ?_⟩
      have hpn : p < n := by omega
      have hap : a ≤ p := by
        rw [List.reverse_cons, List.mem_append] at ha
        rcases ha with ha | ha
        · have := h0.2.2 a ha p (by simp); omega
        · have : a = p := by simpa using ha
          omega
      rcases List.mem_cons.1 hb with rfl | hb
      · omega
      · have := hs b hb; omega
def putU (l : List Int) (n : Int) : List Int := if n ∈ l then l else putS n l.reverse []
theorem putU_mem (l : List Int) (n x : Int) : x ∈ putU l n ↔ x = n ∨ x ∈ l := by
  unfold putU
  split
  · grind
  · rw [putS_mem]; simp
theorem putU_sorted (l : List Int) (n : Int) (h : l.Pairwise (· < ·)) : (putU l n).Pairwise (· < ·) := by
  unfold putU
  split
  · exact h
  · exact putS_sorted n _ _ (by simpa using h) (by simpa using ‹_›) (fun x h => (nomatch h))
def foldU : List Int → List Int → List Int
  | acc, [] => acc
  | acc, x :: xs => foldU (putU acc x) xs
theorem foldU_mem (y : Int) : ∀ (xs acc : List Int), y ∈ foldU acc xs ↔ y ∈ acc ∨ y ∈ xs
  | [], acc => by simp [foldU]
  | x :: xs, acc => by
    simp only [foldU]
    rw [foldU_mem y xs, putU_mem]; simp only [List.mem_cons]; grind
theorem foldU_sorted : ∀ (xs acc : List Int), acc.Pairwise (· < ·) → (foldU acc xs).Pairwise (· < ·)
  | [], acc, h => h
  | x :: xs, acc, h => foldU_sorted xs _ (putU_sorted acc x h)
theorem putS_len (n : Int) : ∀ (r s : List Int), (putS n r s).length = r.length + s.length + 1
  | [], s => by simp [putS]
  | p :: r, s => by
    unfold putS
    split
    · rw [putS_len n r (p :: s)]; simp; omega
    · simp; omega
theorem putU_len (l : List Int) (n : Int) : (putU l n).length ≤ l.length + 1 := by
  unfold putU
  split
  · omega
  · rw [putS_len]; simp
theorem foldU_len : ∀ (xs acc : List Int), (foldU acc xs).length ≤ acc.length + xs.length
  | [], acc => by simp [foldU]
  | x :: xs, acc => by
    have := foldU_len xs (putU acc x)
    have := putU_len acc x
    simp only [foldU, List.length_cons]; omega
/-- what Compact leaves of a list in order -/
theorem compact_go (d : Array Int) (hs : ∀ i j, i ≤ j → j < d.size → d[i]! ≤ d[j]!) : ∀ m, m ≤ d.size → (Lib.compactUpTo d m).Pairwise (· < ·) ∧ (∀ x, x ∈ Lib.compactUpTo d m ↔ ∃ j, j < m ∧ d[j]! = x)
  | 0, _ => by simp [Lib.compactUpTo]
  | m + 1, hm => by
    obtain ⟨h1, h2⟩ := compact_go d hs m (by omega)
    rw [Lib.compactUpTo_succ]
    cases hk : Lib.keeps d m with
    | true =>
      simp only [if_true]
      refine ⟨List.pairwise_append.2 ⟨h1, by simp, fun a ha b hb => ?_⟩, fun x => ?_⟩
      · have : b = d[m]! := by simpa using hb
        subst this
        obtain ⟨j, hj, rfl⟩ := (h2 a).1 ha
        have hk := of_decide_eq_true hk
        have e1 := hs j (m - 1) (by omega) (by omega)
        have e2 := hs (m - 1) m (by omega) (by omega)
        have e3 : d[m]! ≠ d[m - 1]! := hk.resolve_left (by omega)
        omega
      · rw [List.mem_append, h2]
        constructor
        · rintro (⟨j, hj, e⟩ | e)
          · exact ⟨j, by omega, e⟩
          · exact ⟨m, by omega, (List.mem_singleton.1 e).symm⟩
        · rintro ⟨j, hj, e⟩
          by_cases h : j = m
          · subst h; right; simp [e]
          · left; exact ⟨j, by omega, e⟩
    | false =>
      have hk := of_decide_eq_false hk
      simp only [not_or, Decidable.not_not] at hk
      simp only [Bool.false_eq_true, if_false, List.append_nil]
      refine ⟨h1, fun x => ?_⟩
      rw [h2]
      constructor
      · rintro ⟨j, hj, e⟩; exact ⟨j, by omega, e⟩
      · rintro ⟨j, hj, e⟩
        by_cases h : j = m
        · subst h; exact ⟨j - 1, by omega, by rw [← hk.2]; exact e⟩
        · exact ⟨j, by omega, e⟩
theorem shards_eq (xs : List Int) : Lib.compact (xs.mergeSort fun x y => decide (x ≤ y)) = foldU [] xs := by
  have hp := List.pairwise_mergeSort (le := fun x y : Int => decide (x ≤ y)) (by intro a b c h1 h2; simp at *; omega) (by intro a b; simp; omega) xs
  have hperm := List.mergeSort_perm xs fun x y => decide (x ≤ y)
  obtain ⟨h1, h2⟩ := compact_go (xs.mergeSort fun x y => decide (x ≤ y)).toArray (fun i j hij hj => by
    simp only [List.size_toArray] at hj
    rw [getElem!_pos _ i (by simp only [List.size_toArray]; omega), getElem!_pos _ j (by simp only [List.size_toArray]; omega)]
    by_cases h : i = j
    · subst h; omega
    · have := List.pairwise_iff_getElem.1 hp i j (by omega) hj (by omega)
      simpa using this) (xs.mergeSort fun x y => decide (x ≤ y)).length (by simp)
  refine sorted_ext h1 (foldU_sorted xs [] (by simp)) fun x => ?_
  show x ∈ Lib.compactUpTo _ _ ↔ _
  rw [h2, foldU_mem]
  simp only [List.not_mem_nil, false_or]
  rw [← hperm.mem_iff (a := x)]
  constructor
  · rintro ⟨j, hj, e⟩
    rw [getElem!_pos _ j (by simpa using hj)] at e
    rw [← e]; simp
  · intro hx
    obtain ⟨j, hj, e⟩ := List.mem_iff_getElem.1 hx
    exact ⟨j, hj, by rw [getElem!_pos _ j (by simpa using hj)]; simpa using e⟩
end Go.Proofs.Ytmhiklfijdpebaa

namespace Go.Proofs.Ytmhiklfijdpebaa
open Go Go.E Go.Proofs
/-! the functions on lists of numbers -/
def ir (l : List Int) : List (List T) := l.map iRow
theorem ir_len (l : List Int) : (ir l).length = l.length := by simp [ir]
theorem ir_app (a b : List Int) : ir (a ++ b) = ir a ++ ir b := by simp [ir]
theorem ir_cons (x : Int) (b : List Int) : ir (x :: b) = iRow x :: ir b := rfl
theorem ir_one (x : Int) : [[T.i x]] = ir [x] := rfl
theorem has_loop (m : Nat) (x : Int) : ∀ (post pre : List Int), pre.length + post.length ≤ 4611686018427387 → ∀ n, post.length < n → ∀ k0 k1,
    spec_l7Has_L0_0 m n (.l (ir (pre ++ post))) (.i x) (.i pre.length) k0 k1 = cond (decide (x ∈ post)) (k0 (.b true)) k1
  | [], pre, hs, n, hn, k0, k1 => by
    obtain ⟨n, rfl⟩ : ∃ m', n = m' + 1 := ⟨n - 1, by omega⟩
    simp only [spec_l7Has_L0_0, T.int_i, T.rows_l]
    rw [dec_f (by simp [ir_len]), dec_f (by simp)]
  | y :: post, pre, hs, n, hn, k0, k1 => by
    obtain ⟨n, rfl⟩ : ∃ m', n = m' + 1 := ⟨n - 1, by omega⟩
    simp only [List.length_cons] at hs hn
    have ih := has_loop m x post (pre ++ [y]) (by simp; omega) n (by omega) k0 k1
    have e1 : (ir (pre ++ y :: post)).getD (Int.toNat (pre.length : Int)) [] = iRow y := by
      have := ix_row (ir pre) (iRow y) (ir post)
      rw [ir_len] at this
      rw [ir_app, ir_cons]; exact this
    simp only [spec_l7Has_L0_0, T.int_i, T.rows_l, e1, ix_nx pre (by omega)]
    rw [dec_t (by simp [ir_len]; omega), dec_t (by simp [ir_len]; omega)]
    simp only [List.append_assoc, List.cons_append, List.nil_append, len_snoc] at ih
    simp only [iRow, List.getD_cons_zero, T.int_i]
    by_cases h : y = x
    · subst h
      rw [cond_t (by simp), dec_t (by simp)]
    · rw [cond_f (beq_eq_false_iff_ne.2 h), ih]
      by_cases h2 : x ∈ post
      · rw [dec_t h2, dec_t (by simp [h2])]
      · rw [dec_f h2, dec_f (by simp [h2, Ne.symm h])]
theorem has_ok {m : Nat} (l : List Int) (x : Int) (hl : l.length ≤ 1048576) (hm : 1048580 ≤ m) (k : T → An) : spec_l7Has m (.l (ir l)) (.i x) k = k (.b (decide (x ∈ l))) := by
  obtain ⟨m, rfl⟩ : ∃ m', m = m' + 1 := ⟨m - 1, by omega⟩
  refine (has_loop m x l [] (by simp; omega) m (by omega) _ _).trans ?_
  by_cases h : x ∈ l
  · rw [dec_t h, decide_eq_true h]
  · rw [dec_f h, decide_eq_false h]
theorem mid_get (a : List Int) (x : Int) (b : List (List T)) : (ir a ++ iRow x :: b).getD a.length [] = iRow x := by
  rw [← ir_len a]; simp [List.getD]
theorem mid_set (a : List Int) (x : List T) (y : List T) (b : List (List T)) : (ir a ++ x :: b).set a.length y = ir a ++ y :: b := by
  rw [← ir_len a]; simp [List.set_append]
def putEnd (k : T → An) : T → T → T → An := fun y1 y2 y3 => cond (decide ((0 : Int) ≤ y2.int ∧ y2.int < (y3.rows.length : Int)))
    (cond (decide ((Int.toNat y2.int) < y3.rows.length))
    (k (T.l (y3.rows.set (Int.toNat y2.int) ((y3.rows.getD (Int.toNat y2.int) []).set 0 y1))))
    (.bad))
    (.bad)
theorem putEnd_ok (k : T → An) (a : List Int) (x z : Int) (s : List Int) : putEnd k (.i x) (.i a.length) (.l (ir a ++ iRow z :: ir s)) = k (.l (ir (a ++ x :: s))) := by
  simp only [putEnd, T.int_i, T.rows_l, Int.toNat_natCast]
  rw [dec_t (by simp [ir_len]; omega), dec_t (by simp [ir_len]), mid_get, mid_set, ir_app, ir_cons]
  rfl
theorem put_loop (m : Nat) (x : Int) (k : T → An) : ∀ (r s : List Int) (z : Int), r.length + s.length ≤ 4611686018427387 → ∀ n, r.length < n →
    spec_l7Put_L0_0 m n (.i x) (.i r.length) (.l (ir r.reverse ++ iRow z :: ir s)) (putEnd k) = k (.l (ir (putS x r s)))
  | [], s, z, hs, n, hn => by
    obtain ⟨n, rfl⟩ : ∃ m', n = m' + 1 := ⟨n - 1, by omega⟩
    simp only [spec_l7Put_L0_0, T.int_i, T.rows_l, List.length_nil, List.reverse_nil]
    rw [cond_f (by simp)]
    exact putEnd_ok k [] x z s
  | p :: r, s, z, hs, n, hn => by
    obtain ⟨n, rfl⟩ : ∃ m', n = m' + 1 := ⟨n - 1, by omega⟩
    simp only [List.length_cons] at hs hn
    have ih := put_loop m x k r (p :: s) p (by simp; omega) n (by omega)
    have e0 : IntKind.i64.wrap (((r.length + 1 : Nat) : Int) - 1) = (r.length : Int) := by rw [wrap_i64 (by omega) (by omega)]; omega
    have e1 : ir (p :: r).reverse ++ iRow z :: ir s = ir r.reverse ++ iRow p :: iRow z :: ir s := by
      rw [List.reverse_cons, ir_app]; simp [ir]
    have e2 : (ir r.reverse ++ iRow p :: iRow z :: ir s).getD r.length [] = iRow p := by
      have := mid_get r.reverse p (iRow z :: ir s)
      rwa [List.length_reverse] at this
    have e4 : (ir r.reverse ++ iRow p :: iRow z :: ir s).getD (r.length + 1) [] = iRow z := by
      have := mid_get (r.reverse ++ [p]) z (ir s)
      rw [ir_app] at this
      simpa [ir] using this
    have e5 : (ir r.reverse ++ iRow p :: iRow z :: ir s).set (r.length + 1) (iRow p) = ir r.reverse ++ iRow p :: ir (p :: s) := by
      have := mid_set (r.reverse ++ [p]) (iRow z) (iRow p) (ir s)
      rw [ir_app] at this
      simpa [ir] using this
    have e6 : (ir r.reverse ++ iRow p :: iRow z :: ir s).length = r.length + s.length + 2 := by simp [ir_len]; omega
    simp only [spec_l7Put_L0_0, T.int_i, T.rows_l, List.length_cons, e0, e1, Int.toNat_natCast, e2, e4, e6]
    rw [cond_t (by simp), dec_t (by omega), dec_t (by omega)]
    have e7 : ((iRow p).getD 0 dflt).int = p := rfl
    have e8 : (iRow z).set 0 ((iRow p).getD 0 dflt) = iRow p := rfl
    rw [e7, e8]
    unfold putS
    by_cases hp : p > x
    · rw [dec_t hp, dec_t (by omega), dec_t (by omega), dec_t (by omega), dec_t (by omega), e5, if_pos hp]
      exact ih
    · rw [dec_f hp, if_neg hp, ← e1]
      have := putEnd_ok k (p :: r).reverse x z s
      rw [List.length_reverse, List.length_cons] at this
      exact this
theorem put_ok {m : Nat} (l : List Int) (x : Int) (hl : l.length ≤ 1048576) (hm : 1048600 ≤ m) (k : T → An) : spec_l7Put m (.l (ir l)) (.i x) k = k (.l (ir (putU l x))) := by
  obtain ⟨m, rfl⟩ : ∃ m', m = m' + 1 := ⟨m - 1, by omega⟩
  simp only [spec_l7Put, T.rows_l, ir_len]
  rw [has_ok l x hl (by omega)]
  simp only [T.bool_b]
  unfold putU
  by_cases h : x ∈ l
  · rw [dec_t h, if_pos h]
  · rw [dec_f h, if_neg h, dec_t (by unfold maxRow; omega), dec_t (by unfold maxRow; omega)]
    have e1 : IntKind.i64.wrap (((ir l ++ [[T.i x]]).length : Nat) - 1 : Int) = (l.reverse.length : Int) := by
      rw [wrap_i64 (by first | (simp [ir_len]; done) | (simp [ir_len]; omega)) (by first | (simp [ir_len]; done) | (simp [ir_len]; omega))]; simp [ir_len]
    rw [e1]
    have := put_loop m x k l.reverse [] x (by simp; omega) m (by simp; omega)
    rw [List.reverse_reverse] at this
    exact this
/-! shards of operations -/
def opsSh (ops : List (List T)) (n : Int) : List Int := ops.map fun r => ((shardP (r.getD 1 dflt).str n : Nat) : Int)
def OpRow (r : List T) : Prop := ∃ (a : Int) (x y : ByteArray), r = [.i a, .s x, .s y] ∧ x.size ≤ 1048576
theorem specSh_loop (m : Nat) (hm : 1048700 ≤ m) (x1 : Int) (k1 : T → An) : ∀ (post pre : List (List T)) (acc : List Int), (∀ r ∈ post, OpRow r) → acc.length + post.length ≤ 1048576 → pre.length + post.length ≤ 1048576 → ∀ n, post.length < n → ∀ k0,
    spec_ShardsOf_L0_1 m n (.l (pre ++ post)) (.i x1) (.l (ir acc)) (.i pre.length) k0 k1 = k0 (.l (ir (foldU acc (opsSh post x1))))
  | [], pre, acc, _, hs, hs2, n, hn, k0 => by
    obtain ⟨n, rfl⟩ : ∃ m', n = m' + 1 := ⟨n - 1, by omega⟩
    simp only [spec_ShardsOf_L0_1, T.int_i, T.rows_l]
    rw [dec_f (by simp)]
    rfl
  | x :: post, pre, acc, ho, hs, hs2, n, hn, k0 => by
    obtain ⟨n, rfl⟩ : ∃ m', n = m' + 1 := ⟨n - 1, by omega⟩
    simp only [List.length_cons] at hs hs2 hn
    obtain ⟨a, key, val, rfl, hk⟩ := ho x (by simp)
    have hpl := putU_len acc ((shardP key x1 : Nat) : Int)
    have ih := specSh_loop m hm x1 k1 post (pre ++ [[.i a, .s key, .s val]]) (putU acc ((shardP key x1 : Nat) : Int)) (fun r hr => ho r (by simp [hr])) (by omega) (by simp; omega) n (by omega) k0
    simp only [spec_ShardsOf_L0_1, T.int_i, T.rows_l, ix_row, ix_nx pre (by omega), List.drop_succ_cons, List.drop_zero, List.getD_cons_zero]
    rw [dec_t (by simp; omega), dec_t (by simp; omega), specShard_ok key x1 hk (by omega), put_ok acc _ (by omega) (by omega)]
    simp only [List.append_assoc, List.cons_append, List.nil_append, len_snoc] at ih
    simp only [T.rows_l]
    exact ih
theorem specSh_ok {m : Nat} (ops : List (List T)) (n : Int) (ho : ∀ r ∈ ops, OpRow r) (hl : ops.length ≤ 1048576) (hm : 1048710 ≤ m) (k : T → An) : spec_ShardsOf m (.l ops) (.i n) k = k (.l (ir (foldU [] (opsSh ops n)))) := by
  obtain ⟨m, rfl⟩ : ∃ m', m = m' + 1 := ⟨m - 1, by omega⟩
  obtain ⟨m', rfl⟩ : ∃ m', m = m' + 1 := ⟨m - 1, by omega⟩
  simp only [spec_ShardsOf, T.rows_l]
  cases ops with
  | nil =>
    simp only [spec_ShardsOf_L0_0, T.int_i, T.rows_l]
    rw [dec_f (by simp)]
    rfl
  | cons x post =>
    simp only [List.length_cons] at hl
    obtain ⟨a, key, val, rfl, hk⟩ := ho x (by simp)
    have hpl := putU_len [] ((shardP key n : Nat) : Int)
    simp only [List.length_nil] at hpl
    have e := specSh_loop (m' + 1) (by omega) n (fun y5 => k (T.l y5.rows)) post [[.i a, .s key, .s val]] (putU [] ((shardP key n : Nat) : Int)) (fun r hr => ho r (by simp [hr])) (by omega) (by simp; omega) m' (by omega) (fun y4 => k (T.l y4.rows))
    simp only [spec_ShardsOf_L0_0, T.int_i, T.rows_l, List.length_cons]
    rw [dec_t (by omega), dec_t (by omega)]
    have e1 : ([.i a, .s key, .s val] :: post).getD (Int.toNat 0) [] = [.i a, .s key, .s val] := rfl
    rw [e1]
    simp only [List.drop_succ_cons, List.drop_zero, List.getD_cons_zero]
    rw [specShard_ok key n hk (by omega)]
    have e2 := put_ok (m := m' + 1) [] ((shardP key n : Nat) : Int) (by simp) (by omega)
    have e3 : (T.l [] : T) = .l (ir []) := rfl
    rw [e3, e2]
    simp only [T.rows_l]
    have e4 : IntKind.i64.wrap (0 + 1) = (([[T.i a, .s key, .s val]].length : Nat) : Int) := (by decide : IntKind.i64.wrap (0 + 1) = ((1 : Nat) : Int))
    rw [e4]
    exact e
theorem implSh_loop (m : Nat) (hm : 1048700 ≤ m) (x0 : Int) : ∀ (post pre : List (List T)) (acc : List Int), (∀ r ∈ post, OpRow r) → acc.length + post.length ≤ 1048576 → pre.length + post.length ≤ 1048576 → ∀ n, post.length < n → ∀ k0,
    impl_ShardsOf_L0_0 m n (.i x0) (.l (pre ++ post)) (.i (pre ++ post).length) (.i pre.length) (.l (ir acc)) k0 = k0 (.l (ir (acc ++ opsSh post x0)))
  | [], pre, acc, _, hs, hs2, n, hn, k0 => by
    obtain ⟨n, rfl⟩ : ∃ m', n = m' + 1 := ⟨n - 1, by omega⟩
    simp only [impl_ShardsOf_L0_0, T.int_i, T.rows_l]
    rw [dec_f (by simp)]
    simp [opsSh]
  | x :: post, pre, acc, ho, hs, hs2, n, hn, k0 => by
    obtain ⟨n, rfl⟩ : ∃ m', n = m' + 1 := ⟨n - 1, by omega⟩
    simp only [List.length_cons] at hs hs2 hn
    obtain ⟨a, key, val, rfl, hk⟩ := ho x (by simp)
    have ih := implSh_loop m hm x0 post (pre ++ [[.i a, .s key, .s val]]) (acc ++ [((shardP key x0 : Nat) : Int)]) (fun r hr => ho r (by simp [hr])) (by simp; omega) (by simp; omega) n (by omega) k0
    simp only [impl_ShardsOf_L0_0, T.int_i, T.rows_l, ix_row, ix_nx pre (by omega), List.getD_cons_succ, List.getD_cons_zero]
    rw [dec_t (by simp; omega), dec_t (by simp; omega), implShard_ok key x0 hk (by omega), dec_t (by rw [ir_len]; unfold maxRow; omega)]
    simp only [List.append_assoc, List.cons_append, List.nil_append, len_snoc] at ih
    rw [ir_one, ← ir_app]
    exact ih
theorem implSh_ok {m : Nat} (ops : List (List T)) (n : Int) (ho : ∀ r ∈ ops, OpRow r) (hl : ops.length ≤ 1048576) (hm : 1048710 ≤ m) (k : T → An) : impl_ShardsOf m (.l ops) (.i n) k = k (.l (ir (foldU [] (opsSh ops n)))) := by
  obtain ⟨m, rfl⟩ : ∃ m', m = m' + 1 := ⟨m - 1, by omega⟩
  simp only [impl_ShardsOf, T.rows_l]
  refine (implSh_loop m (by omega) n ops [] [] ho (by simp; omega) (by simp; omega) m (by omega) _).trans ?_
  obtain ⟨m, rfl⟩ : ∃ m', m = m' + 1 := ⟨m - 1, by omega⟩
  simp only [List.nil_append, T.rows_l, slices_Sort, slices_Compact, slices_Clip___int_int_]
  have e1 : sortRows (ir (opsSh ops n)) = ir ((opsSh ops n).mergeSort fun x y => decide (x ≤ y)) := sortRows_i _
  have e2 : compactRows (ir ((opsSh ops n).mergeSort fun x y => decide (x ≤ y))) = ir (foldU [] (opsSh ops n)) := (compactRows_i _).trans (congrArg (List.map iRow) (shards_eq _))
  rw [e1, e2, dec_t (by omega), dec_t (by omega), Int.toNat_natCast, List.take_length]
end Go.Proofs.Ytmhiklfijdpebaa

namespace Go.Proofs.Ytmhiklfijdpebaa
open Go Go.E Go.Proofs
/-! what a shard has promised -/
def recHit (tx : Int) (r : List T) : Bool := (r.getD 1 dflt).int == tx && ((r.getD 0 dflt).int == 1 || (r.getD 0 dflt).int == 2)
def saysB (kind tx : Int) (r : List T) : Bool := (r.getD 0 dflt).int == kind && (r.getD 1 dflt).int == tx
def promB (log : List (List T)) (sure tx : Int) : Bool := (log.take sure.toNat).any (recHit tx)
theorem says_any (tx : Int) : ∀ l : List (List T), (l.any (saysB 1 tx) || l.any (saysB 2 tx)) = l.any (recHit tx)
  | [] => rfl
  | r :: l => by
    have ih := says_any tx l
    simp only [List.any_cons, ← ih, saysB, recHit]
    cases ((r.getD 0 dflt).int == 1) <;> cases ((r.getD 0 dflt).int == 2) <;> cases ((r.getD 1 dflt).int == tx) <;> cases l.any (saysB 1 tx) <;> cases l.any (saysB 2 tx) <;> rfl
theorem drop_getD (r : List T) (n : Nat) : (r.drop n).getD 0 dflt = r.getD n dflt := by simp [List.getD]
theorem says_loop (m : Nat) (x1 x3 : T) (kind : Int) : ∀ (post pre : List (List T)), pre.length + post.length ≤ 1048576 → ∀ n, post.length < n → ∀ k0 k1,
    spec_l13Says_L0_0 m n (.l (pre ++ post)) x1 (.i kind) x3 (.i pre.length) k0 k1 = cond ((post.take (x1.int - pre.length).toNat).any (saysB kind x3.int)) (k0 (.b true)) k1
  | [], pre, hs, n, hn, k0, k1 => by
    obtain ⟨n, rfl⟩ : ∃ m', n = m' + 1 := ⟨n - 1, by omega⟩
    simp only [spec_l13Says_L0_0, T.int_i, T.rows_l, List.take_nil, List.any_nil, cond_false]
    by_cases h : (pre.length : Int) < x1.int
    · rw [cond_t (by simp [h]), dec_f (by simp)]
    · rw [cond_f (by simp [h])]
  | x :: post, pre, hs, n, hn, k0, k1 => by
    obtain ⟨n, rfl⟩ : ∃ m', n = m' + 1 := ⟨n - 1, by omega⟩
    simp only [List.length_cons] at hs hn
    have ih := says_loop m x1 x3 kind post (pre ++ [x]) (by simp; omega) n (by omega) k0 k1
    simp only [spec_l13Says_L0_0, T.int_i, T.rows_l, ix_row, ix_nx pre (by omega), drop_getD]
    simp only [List.append_assoc, List.cons_append, List.nil_append, len_snoc] at ih
    by_cases h : (pre.length : Int) < x1.int
    · have e1 : (x1.int - pre.length).toNat = (x1.int - (pre.length + 1)).toNat + 1 := by omega
      rw [cond_t (by simp [h]), dec_t (by simp; omega), dec_t (by simp; omega), e1]
      simp only [List.take_succ_cons, List.any_cons, saysB] at ih ⊢
      cases ((x.getD 0 dflt).int == kind) with
      | false => rw [cond_f (by rfl), ih]; simp
      | true =>
        rw [cond_t (by rfl), dec_t (by simp; omega)]
        cases ((x.getD 1 dflt).int == x3.int) with
        | false => rw [cond_f rfl, ih]; simp
        | true => simp
    · have e1 : (x1.int - pre.length).toNat = 0 := by omega
      rw [cond_f (by simp [h]), e1]
      simp
theorem says_ok {m : Nat} (log : List (List T)) (x1 x3 : T) (kind : Int) (hl : log.length ≤ 1048576) (hm : 1048580 ≤ m) (k : T → An) :
    spec_l13Says m (.l log) x1 (.i kind) x3 k = k (.b ((log.take x1.int.toNat).any (saysB kind x3.int))) := by
  obtain ⟨m, rfl⟩ : ∃ m', m = m' + 1 := ⟨m - 1, by omega⟩
  refine (says_loop m x1 x3 kind log [] (by simp; omega) m (by omega) _ _).trans ?_
  simp only [List.length_nil, Int.natCast_zero, Int.sub_zero]
  cases (log.take x1.int.toNat).any (saysB kind x3.int) <;> rfl
theorem prom_loop (m : Nat) (x0 : T) : ∀ (post pre : List (List T)), pre.length + post.length ≤ 1048576 → ∀ n, post.length < n → ∀ k0 k1,
    impl_Shard_isPromised_L0_0 m n x0 (.l (pre ++ post)) (.i (pre ++ post).length) (.i pre.length) k0 k1 = cond (post.any (recHit x0.int)) (k0 (.b true)) k1
  | [], pre, hs, n, hn, k0, k1 => by
    obtain ⟨n, rfl⟩ : ∃ m', n = m' + 1 := ⟨n - 1, by omega⟩
    simp only [impl_Shard_isPromised_L0_0, T.int_i, T.rows_l, List.any_nil, cond_false]
    rw [dec_f (by simp)]
  | x :: post, pre, hs, n, hn, k0, k1 => by
    obtain ⟨n, rfl⟩ : ∃ m', n = m' + 1 := ⟨n - 1, by omega⟩
    simp only [List.length_cons] at hs hn
    have ih := prom_loop m x0 post (pre ++ [x]) (by simp; omega) n (by omega) k0 k1
    simp only [impl_Shard_isPromised_L0_0, T.int_i, T.rows_l, ix_row, ix_nx pre (by omega)]
    simp only [List.append_assoc, List.cons_append, List.nil_append, len_snoc] at ih
    rw [dec_t (by simp; omega), dec_t (by simp; omega)]
    simp only [List.any_cons, recHit] at ih ⊢
    cases ((x.getD 1 dflt).int == x0.int) with
    | false => rw [cond_f (by rfl), ih]; simp
    | true =>
      rw [cond_t (by rfl)]
      cases ((x.getD 0 dflt).int == 1) with
      | true => rw [cond_f (by rfl)]; simp
      | false =>
        rw [cond_t (by rfl)]
        cases ((x.getD 0 dflt).int == 2) with
        | true => simp
        | false => simp only [cond_false, ih]; simp
theorem take_min (log : List (List T)) (s : Int) : log.take (Int.toNat (maxI 0 (minI s (log.length : Int)))) = log.take s.toNat := by
  have e : Int.toNat (maxI 0 (minI s (log.length : Int))) = min s.toNat log.length := by
    unfold maxI minI
    split <;> split <;> omega
  rw [e]
  rcases Nat.le_total s.toNat log.length with h | h
  · rw [Nat.min_eq_left h]
  · rw [Nat.min_eq_right h, List.take_length, List.take_of_length_le h]
theorem isProm_ok {m : Nat} (row : List T) (x1 : T) (hl : (row.getD 1 dflt).rows.length ≤ 1048576) (hm : 1048580 ≤ m) (k : T → An) :
    impl_Shard_isPromised m (.l [row.take 5]) x1 k = k (.b (promB (row.getD 1 dflt).rows (row.getD 2 dflt).int x1.int)) := by
  obtain ⟨m, rfl⟩ : ∃ m', m = m' + 1 := ⟨m - 1, by omega⟩
  have r1 : row1 (.l [row.take 5]) = row.take 5 := rfl
  have e1 : (row.take 5).getD 1 dflt = row.getD 1 dflt := by simp [List.getD, List.getElem?_take]
  have e2 : (row.take 5).getD 2 dflt = row.getD 2 dflt := by simp [List.getD, List.getElem?_take]
  simp only [impl_Shard_isPromised, r1, drop_getD, e1, e2, take_min]
  have hb : 0 ≤ maxI 0 (minI (row.getD 2 dflt).int ((row.getD 1 dflt).rows.length : Int)) ∧ maxI 0 (minI (row.getD 2 dflt).int ((row.getD 1 dflt).rows.length : Int)) ≤ ((row.getD 1 dflt).rows.length : Int) := by
    unfold maxI minI
    split <;> split <;> omega
  rw [dec_t hb, dec_t ⟨by omega, hb.1⟩]
  refine (prom_loop m x1 ((row.getD 1 dflt).rows.take (row.getD 2 dflt).int.toNat) [] (by have := List.length_take_le' (row.getD 2 dflt).int.toNat (row.getD 1 dflt).rows; rw [List.length_nil]; omega) m (by have := List.length_take_le' (row.getD 2 dflt).int.toNat (row.getD 1 dflt).rows; omega) _ _).trans ?_
  unfold promB
  cases ((row.getD 1 dflt).rows.take (row.getD 2 dflt).int.toNat).any (recHit x1.int) <;> rfl
/-- all shards of a list have promised -/
def heldB (shards : List (List T)) (tx : Int) : List Int → Bool
  | [] => true
  | s :: L => if s < shards.length then promB ((shards.getD s.toNat []).getD 1 dflt).rows ((shards.getD s.toNat []).getD 2 dflt).int tx && heldB shards tx L else false
def LogsOk (shards : List (List T)) : Prop := ∀ s < shards.length, ((shards.getD s []).getD 1 dflt).rows.length ≤ 1048576
theorem ir_get (pre : List Int) (s : Int) (post : List Int) : (ir (pre ++ s :: post)).getD (Int.toNat (pre.length : Int)) [] = iRow s := by
  rw [ir_app, ir_cons, Int.toNat_natCast]; exact mid_get pre s (ir post)
theorem held_loop (m : Nat) (hm : 1048600 ≤ m) (x4 x5 x6 x7 x8 x9 x11 x12 x13 x14 x15 : T) (shards : List (List T)) (hl : LogsOk shards) : ∀ (post pre : List Int), (∀ s ∈ post, 0 ≤ s) → pre.length + post.length ≤ 1048576 → ∀ n, post.length < n → ∀ k0 k1,
    spec_l13Held_L0_0 m n (.i 0) (.i 0) (.l (ir (pre ++ post))) (.i pre.length) x4 x5 x6 x7 x8 x9 (.l shards) x11 x12 x13 x14 x15 k0 k1 = cond (heldB shards x14.int post) k1 (k0 (.b false))
  | [], pre, hp, hs, n, hn, k0, k1 => by
    obtain ⟨n, rfl⟩ : ∃ m', n = m' + 1 := ⟨n - 1, by omega⟩
    simp only [spec_l13Held_L0_0, T.int_i, T.rows_l, heldB, cond_true]
    rw [dec_f (by simp [ir_len])]
  | s :: post, pre, hp, hs, n, hn, k0, k1 => by
    obtain ⟨n, rfl⟩ : ∃ m', n = m' + 1 := ⟨n - 1, by omega⟩
    simp only [List.length_cons] at hs hn
    have ih := held_loop m hm x4 x5 x6 x7 x8 x9 x11 x12 x13 x14 x15 shards hl post (pre ++ [s]) (fun s hs => hp s (by simp [hs])) (by simp; omega) n (by omega) k0 k1
    have h0 := hp s (by simp)
    have e0 : ((Int.toNat 0 : Nat) : Int) = 0 := rfl
    have e7 : ((iRow s).getD 0 dflt).int = s := rfl
    simp only [spec_l13Held_L0_0, T.int_i, T.rows_l, ir_get, e7, ix_nx pre (by omega), e0]
    simp only [List.append_assoc, List.cons_append, List.nil_append, len_snoc] at ih
    rw [dec_t (by simp [ir_len]; omega), dec_t (by simp [ir_len]; omega)]
    unfold heldB
    by_cases h : s < shards.length
    · have hlog := hl s.toNat (by omega)
      rw [dec_f (by omega), if_pos h, dec_t (by simp [ir_len]; omega), dec_t (by omega), says_ok _ _ _ _ hlog (by omega)]
      unfold promB
      rw [← says_any]
      simp only [T.bool_b]
      cases ((((shards.getD s.toNat []).getD 1 dflt).rows.take ((shards.getD s.toNat []).getD 2 dflt).int.toNat).any (saysB 1 x14.int)) with
      | true => rw [cond_f (by rfl), ih]; simp
      | false =>
        rw [cond_t (by rfl), says_ok _ _ _ _ hlog (by omega)]
        simp only [T.bool_b]
        cases ((((shards.getD s.toNat []).getD 1 dflt).rows.take ((shards.getD s.toNat []).getD 2 dflt).int.toNat).any (saysB 2 x14.int)) with
        | true => rw [cond_f (by rfl), ih]; simp
        | false => rw [cond_t (by rfl)]; simp
    · rw [dec_t (by omega), if_neg h]; rfl
theorem implHeld_loop (m : Nat) (hm : 1048600 ≤ m) (x2 x3 x4 x8 x9 x10 x11 x12 x13 x15 x16 x17 x18 x19 : T) (shards : List (List T)) (hl : LogsOk shards) : ∀ (post pre : List Int), (∀ s ∈ post, 0 ≤ s) → pre.length + post.length ≤ 1048576 → ∀ n, post.length < n → ∀ k0 k1,
    impl_Promised_L1_0 m n (.i 0) (.i 0) x2 x3 x4 (.l (ir (pre ++ post))) (.i (pre ++ post).length) (.i pre.length) x8 x9 x10 x11 x12 x13 (.l shards) x15 x16 x17 x18 x19 k0 k1 =
      cond (heldB shards x18.int post) (k1 (.i 0) x2 x3 x4 x8 x9 x10 x11 x12 x13 (.l shards) x15 x16 x17) (k0 (.b false))
  | [], pre, hp, hs, n, hn, k0, k1 => by
    obtain ⟨n, rfl⟩ : ∃ m', n = m' + 1 := ⟨n - 1, by omega⟩
    simp only [impl_Promised_L1_0, T.int_i, T.rows_l, heldB, cond_true]
    rw [dec_f (by simp)]
    rfl
  | s :: post, pre, hp, hs, n, hn, k0, k1 => by
    obtain ⟨n, rfl⟩ : ∃ m', n = m' + 1 := ⟨n - 1, by omega⟩
    simp only [List.length_cons] at hs hn
    have ih := implHeld_loop m hm x2 x3 x4 x8 x9 x10 x11 x12 x13 x15 x16 x17 x18 x19 shards hl post (pre ++ [s]) (fun s hs => hp s (by simp [hs])) (by simp; omega) n (by omega) k0 k1
    have h0 := hp s (by simp)
    have e0 : ((Int.toNat 0 : Nat) : Int) = 0 := rfl
    have e7 : ((iRow s).getD 0 dflt).int = s := rfl
    simp only [impl_Promised_L1_0, T.int_i, T.rows_l, ir_get, e7, ix_nx pre (by omega), e0]
    simp only [List.append_assoc, List.cons_append, List.nil_append, len_snoc] at ih
    rw [dec_t (by simp; omega), dec_t (by simp [ir_len]; omega)]
    unfold heldB
    by_cases h : s < shards.length
    · have hlog := hl s.toNat (by omega)
      rw [cond_t (by simp; omega), if_pos h, dec_t (by omega), isProm_ok _ _ hlog (by omega)]
      simp only [T.bool_b]
      cases (promB ((shards.getD s.toNat []).getD 1 dflt).rows ((shards.getD s.toNat []).getD 2 dflt).int x18.int) with
      | true => rw [cond_f (by rfl), ih]; simp
      | false => rw [cond_t (by rfl)]; simp
    · rw [cond_f (by simp; omega), if_neg h]; rfl
end Go.Proofs.Ytmhiklfijdpebaa

namespace Go.Proofs.Ytmhiklfijdpebaa
open Go Go.E Go.Proofs
/-! orders and choices -/
def fstTx (tx : Int) : List (List T) → Option Nat
  | [] => none
  | r :: rs => cond ((r.getD 0 dflt).int == tx) (some 0) ((fstTx tx rs).map (· + 1))
theorem fstTx_ok {tx : Int} : ∀ {rows : List (List T)} {j : Nat}, fstTx tx rows = some j → j < rows.length ∧ ((rows.getD j []).getD 0 dflt).int = tx
  | [], j, h => by cases h
  | r :: rs, j, h => by
    simp only [fstTx] at h
    cases hc : ((r.getD 0 dflt).int == tx) with
    | true => rw [hc] at h; cases h; exact ⟨by simp, by simpa using hc⟩
    | false =>
      rw [hc, cond_false] at h
      cases hf : fstTx tx rs with
      | none => rw [hf] at h; cases h
      | some i =>
        rw [hf] at h; cases h
        obtain ⟨h1, h2⟩ := fstTx_ok hf
        exact ⟨by simp; omega, by simpa using h2⟩
theorem index_loop (m : Nat) (hm : 1 ≤ m) (tx : T) : ∀ (post pre : List (List T)), pre.length + post.length ≤ 1048576 → ∀ n, post.length < n → ∀ k0 k1,
    slices_IndexFunc___impl_Order_impl_Order__L0_0 m n (.l (pre ++ post)) (.l [[tx]]) (.i (pre ++ post).length) (.i pre.length) k0 k1 = (match fstTx tx.int post with | some j => k0 (.i (pre.length + j : Nat)) | none => k1)
  | [], pre, hs, n, hn, k0, k1 => by
    obtain ⟨n, rfl⟩ : ∃ m', n = m' + 1 := ⟨n - 1, by omega⟩
    simp only [slices_IndexFunc___impl_Order_impl_Order__L0_0, T.int_i, T.rows_l]
    rw [dec_f (by simp)]
    rfl
  | x :: post, pre, hs, n, hn, k0, k1 => by
    obtain ⟨n, rfl⟩ : ∃ m', n = m' + 1 := ⟨n - 1, by omega⟩
    obtain ⟨m, rfl⟩ : ∃ m', m = m' + 1 := ⟨m - 1, by omega⟩
    simp only [List.length_cons] at hs hn
    have ih := index_loop (m + 1) hm tx post (pre ++ [x]) (by simp; omega) n (by omega) k0 k1
    have r1 : row1 (.l [[tx]]) = [tx] := rfl
    simp only [slices_IndexFunc___impl_Order_impl_Order__L0_0, impl_World_orderAt_1, T.int_i, T.rows_l, ix_row, ix_nx pre (by omega), r1, List.getD_cons_zero, T.bool_b, fstTx]
    rw [dec_t (by simp; omega), dec_t (by simp; omega)]
    simp only [List.append_assoc, List.cons_append, List.nil_append, len_snoc] at ih
    cases hc : ((x.getD 0 dflt).int == tx.int) with
    | true => rfl
    | false =>
      simp only [cond_false]
      rw [ih]
      cases fstTx tx.int post with
      | none => rfl
      | some j => simp only [Option.map_some]; congr 3; simp; omega
theorem orderAt_ok {m : Nat} (a0 a1 a2 a3 a4 a5 a6 a7 a8 : T) (orders : List (List T)) (tx : T) (hl : orders.length ≤ 1048576) (hm : 1048590 ≤ m) (k : T → An) :
    impl_World_orderAt m (.l [[a0, a1, a2, a3, a4, a5, a6, a7, a8, .l orders]]) tx k = k (.i (match fstTx tx.int orders with | some j => (j : Int) | none => -1)) := by
  obtain ⟨m, rfl⟩ : ∃ m', m = m' + 1 := ⟨m - 1, by omega⟩
  obtain ⟨m, rfl⟩ : ∃ m', m = m' + 1 := ⟨m - 1, by omega⟩
  have r1 : row1 (.l [[a0, a1, a2, a3, a4, a5, a6, a7, a8, .l orders]]) = [a0, a1, a2, a3, a4, a5, a6, a7, a8, .l orders] := rfl
  have r2 : row1 (.l [[tx]]) = [tx] := rfl
  simp only [impl_World_orderAt, slices_IndexFunc___impl_Order_impl_Order_, r1, r2, List.drop_succ_cons, List.drop_zero, List.getD_cons_zero, T.rows_l]
  refine (index_loop m (by omega) tx orders [] (by simp; omega) m (by omega) _ _).trans ?_
  cases fstTx tx.int orders with
  | none => rfl
  | some j => simp
theorem begun_loop (m : Nat) (x0 x3 x4 x5 x6 x7 x8 x9 x10 x11 : T) : ∀ (post pre : List (List T)), pre.length + post.length ≤ 1048576 → ∀ n, post.length < n → ∀ k0 k1,
    spec_l12Begun_L0_0 m n x0 (.i 0) (.i pre.length) x3 x4 x5 x6 x7 x8 x9 x10 x11 (.l (pre ++ post)) k0 k1 = (match fstTx x0.int post with | some j => k0 (.i (pre.length + j : Nat)) | none => k1)
  | [], pre, hs, n, hn, k0, k1 => by
    obtain ⟨n, rfl⟩ : ∃ m', n = m' + 1 := ⟨n - 1, by omega⟩
    simp only [spec_l12Begun_L0_0, T.int_i, T.rows_l]
    rw [dec_f (by simp)]
    rfl
  | x :: post, pre, hs, n, hn, k0, k1 => by
    obtain ⟨n, rfl⟩ : ∃ m', n = m' + 1 := ⟨n - 1, by omega⟩
    simp only [List.length_cons] at hs hn
    have ih := begun_loop m x0 x3 x4 x5 x6 x7 x8 x9 x10 x11 post (pre ++ [x]) (by simp; omega) n (by omega) k0 k1
    have e0 : ((Int.toNat 0 : Nat) : Int) = 0 := rfl
    simp only [spec_l12Begun_L0_0, T.int_i, T.rows_l, ix_row, ix_nx pre (by omega), fstTx, e0]
    rw [dec_t (by simp; omega), dec_t (by simp; omega)]
    simp only [List.append_assoc, List.cons_append, List.nil_append, len_snoc] at ih
    cases hc : ((x.getD 0 dflt).int == x0.int) with
    | true => rfl
    | false =>
      simp only [cond_false]
      rw [ih]
      cases fstTx x0.int post with
      | none => rfl
      | some j => simp only [Option.map_some]; congr 3; simp; omega
theorem begun_ok {m : Nat} (x0 x1 x2 x3 x4 x5 x6 x7 x8 x10 : T) (orders : List (List T)) (hl : orders.length ≤ 1048576) (hm : 1048590 ≤ m) (k : T → An) :
    spec_l12Begun m x0 x1 x2 x3 x4 x5 x6 x7 x8 (.l orders) x10 k = k (.i (match fstTx x10.int orders with | some j => (j : Int) | none => -1)) := by
  obtain ⟨m, rfl⟩ : ∃ m', m = m' + 1 := ⟨m - 1, by omega⟩
  simp only [spec_l12Begun, T.rows_l]
  refine (begun_loop m x10 x0 x1 x2 _ _ x5 _ _ _ orders [] (by simp; omega) m (by omega) _ _).trans ?_
  cases fstTx x10.int orders with
  | none => rfl
  | some j => simp
def OrdersOk (orders : List (List T)) : Prop := ∀ b < orders.length, (∀ r ∈ ((orders.getD b []).getD 1 dflt).rows, OpRow r) ∧ ((orders.getD b []).getD 1 dflt).rows.length ≤ 1048576
theorem sh_len (ops : List (List T)) (n : Int) : (foldU [] (opsSh ops n)).length ≤ ops.length := by
  have := foldU_len (opsSh ops n) []
  simpa [opsSh] using this
theorem sh_pos (ops : List (List T)) (n : Int) : ∀ s ∈ foldU [] (opsSh ops n), 0 ≤ s := by
  intro s hs
  rw [foldU_mem] at hs
  rcases hs with hs | hs
  · cases hs
  · simp only [opsSh, List.mem_map] at hs
    obtain ⟨r, -, rfl⟩ := hs
    omega
theorem specHeld_ok {m : Nat} (N : Int) (x1 x2 x3 x4 x5 x7 x8 x9 x10 : T) (shards ops : List (List T)) (hl : LogsOk shards) (ho : ∀ r ∈ ops, OpRow r) (hol : ops.length ≤ 1048576) (hm : 1048800 ≤ m) (k : T → An) :
    spec_l13Held m (.i N) x1 x2 x3 x4 x5 (.l shards) x7 x8 x9 x10 (.l ops) k = k (.b (heldB shards x10.int (foldU [] (opsSh ops N)))) := by
  obtain ⟨m, rfl⟩ : ∃ m', m = m' + 1 := ⟨m - 1, by omega⟩
  have h1 := sh_len ops N
  simp only [spec_l13Held, T.rows_l]
  rw [specSh_ok ops N ho hol (by omega)]
  simp only [T.rows_l]
  refine (held_loop m (by omega) _ _ _ _ _ _ _ _ _ _ _ shards hl (foldU [] (opsSh ops N)) [] (sh_pos ops N) (by simp; omega) m (by omega) _ _).trans ?_
  cases heldB shards x10.int (foldU [] (opsSh ops N)) <;> rfl
def choiceB (N : Int) (shards orders : List (List T)) : List (List T) → Bool
  | [] => true
  | x :: xs => cond (x.getD 1 dflt).bool (match fstTx (x.getD 0 dflt).int orders with
      | none => false
      | some b => heldB shards (x.getD 0 dflt).int (foldU [] (opsSh ((orders.getD b []).getD 1 dflt).rows N)) && choiceB N shards orders xs) (choiceB N shards orders xs)
section
variable {N : Int} {shards orders : List (List T)} (hS : LogsOk shards) (hO : OrdersOk orders) (hol : orders.length ≤ 1048576)
include hS hO hol
theorem specProm_loop (m : Nat) (hm : 1048900 ≤ m) (x3 x4 x5 x7 x9 x10 : T) : ∀ (post pre : List (List T)), pre.length + post.length ≤ 1048576 → ∀ n, post.length < n → ∀ k0 k1,
    spec_Promised_L0_0 m n (.i 0) (.i pre.length) (.i N) x3 x4 x5 (.l (pre ++ post)) x7 (.l shards) x9 x10 (.l orders) k0 k1 = cond (choiceB N shards orders post) k1 (k0 (.b false))
  | [], pre, hs, n, hn, k0, k1 => by
    obtain ⟨n, rfl⟩ : ∃ m', n = m' + 1 := ⟨n - 1, by omega⟩
    simp only [spec_Promised_L0_0, T.int_i, T.rows_l, choiceB, cond_true]
    rw [dec_f (by simp)]
  | x :: post, pre, hs, n, hn, k0, k1 => by
    obtain ⟨n, rfl⟩ : ∃ m', n = m' + 1 := ⟨n - 1, by omega⟩
    simp only [List.length_cons] at hs hn
    have ih := specProm_loop m hm x3 x4 x5 x7 x9 x10 post (pre ++ [x]) (by simp; omega) n (by omega) k0 k1
    have e0 : ((Int.toNat 0 : Nat) : Int) = 0 := rfl
    simp only [spec_Promised_L0_0, T.int_i, T.rows_l, ix_row, ix_nx pre (by omega), drop_getD, e0, choiceB]
    rw [dec_t (by simp; omega), dec_t (by simp; omega)]
    simp only [List.append_assoc, List.cons_append, List.nil_append, len_snoc] at ih
    cases hy : (x.getD 1 dflt).bool with
    | false => rw [cond_t (by rfl), cond_false]; exact ih
    | true =>
      rw [cond_f (by rfl), cond_true, dec_t (by simp; omega), begun_ok _ _ _ _ _ _ _ _ _ _ orders hol (by omega)]
      cases hf : fstTx (x.getD 0 dflt).int orders with
      | none =>
        simp only [T.int_i]
        rw [cond_f (by rfl)]; rfl
      | some b =>
        obtain ⟨hb1, hb2⟩ := fstTx_ok hf
        obtain ⟨ho1, ho2⟩ := hO b hb1
        simp only [T.int_i, Int.toNat_natCast]
        rw [cond_t (by simp), dec_t (by omega), specHeld_ok N _ _ _ _ _ _ _ _ _ shards _ hS ho1 ho2 (by omega)]
        simp only [T.bool_b, hb2]
        cases heldB shards (x.getD 0 dflt).int (foldU [] (opsSh ((orders.getD b []).getD 1 dflt).rows N)) with
        | false => rw [cond_t (by rfl)]; rfl
        | true => rw [cond_f (by rfl), Bool.true_and]; exact ih
theorem implProm_loop (m : Nat) (hm : 1048900 ≤ m) (x5 x6 x9 : T) (r7 r8 r11 r12 : List (List T)) : ∀ (post pre : List (List T)), pre.length + post.length ≤ 1048576 → ∀ n, post.length + 1048600 < n → ∀ k0 k1,
    impl_Promised_L0_0 m n (.i 0) (.l (pre ++ post)) (.i (pre ++ post).length) (.i pre.length) (.i N) x5 x6 (.l r7) (.l r8) x9 (.l shards) (.l r11) (.l r12) (.l orders) k0 k1 = cond (choiceB N shards orders post) k1 (k0 (.b false))
  | [], pre, hs, n, hn, k0, k1 => by
    obtain ⟨n, rfl⟩ : ∃ m', n = m' + 1 := ⟨n - 1, by omega⟩
    simp only [impl_Promised_L0_0, T.int_i, T.rows_l, choiceB, cond_true]
    rw [dec_f (by simp)]
  | x :: post, pre, hs, n, hn, k0, k1 => by
    obtain ⟨n, rfl⟩ : ∃ m', n = m' + 1 := ⟨n - 1, by omega⟩
    simp only [List.length_cons] at hs hn
    have ih := implProm_loop m hm x5 x6 x9 r7 r8 r11 r12 post (pre ++ [x]) (by simp; omega) n (by omega) k0 k1
    have e0 : ((Int.toNat 0 : Nat) : Int) = 0 := rfl
    simp only [impl_Promised_L0_0, T.int_i, T.rows_l, ix_row, drop_getD, e0, choiceB]
    rw [dec_t (by simp; omega), dec_t (by simp; omega)]
    simp only [List.append_assoc, List.cons_append, List.nil_append, len_snoc] at ih
    cases hy : (x.getD 1 dflt).bool with
    | false => rw [cond_t (by rfl), cond_false, ix_nx pre (by omega)]; exact ih
    | true =>
      rw [cond_f (by rfl), cond_true, orderAt_ok _ _ _ _ _ _ _ _ _ orders _ hol (by omega)]
      cases hf : fstTx (x.getD 0 dflt).int orders with
      | none =>
        simp only [T.int_i]
        rw [dec_t (by omega)]; rfl
      | some b =>
        obtain ⟨hb1, hb2⟩ := fstTx_ok hf
        obtain ⟨ho1, ho2⟩ := hO b hb1
        have h1 := sh_len ((orders.getD b []).getD 1 dflt).rows N
        simp only [T.int_i, Int.toNat_natCast]
        rw [dec_f (by omega), dec_t (by omega), implSh_ok _ N ho1 ho2 (by omega)]
        simp only [T.rows_l, ir_len]
        refine (implHeld_loop m (by omega) _ _ _ _ _ _ _ _ _ _ _ _ _ _ shards hS (foldU [] (opsSh ((orders.getD b []).getD 1 dflt).rows N)) [] (sh_pos _ N) (by rw [List.length_nil]; omega) n (by omega) _ _).trans ?_
        cases heldB shards (x.getD 0 dflt).int (foldU [] (opsSh ((orders.getD b []).getD 1 dflt).rows N)) with
        | false => rfl
        | true =>
          rw [cond_true, Bool.true_and]
          simp only [T.int_i, e0, ix_nx pre (by omega : pre.length < 4611686018427387904)]
          exact ih
end
end Go.Proofs.Ytmhiklfijdpebaa

namespace Go.Proofs.Ytmhiklfijdpebaa
open Go Go.E Go.Proofs
mutual
def neT : LT → Bool
  | .sc .any => false
  | .sc _ => true
  | .sl es => !es.isEmpty && neTs es
def neTs : List LT → Bool
  | [] => true
  | e :: es => neT e && neTs es
end
theorem rowsSz_le {es : List LT} (hes : es ≠ []) (h : ∀ r, WtRow es r → rowSz r + es.length ≤ rowBulk r) : ∀ {rows : List (List T)}, (∀ r ∈ rows, WtRow es r) → rows.length + rowsSz rows ≤ rowsBulk rows
  | [], _ => by simp [rowsSz]
  | r :: rows, hr => by
    have h1 := rowsSz_le hes h (rows := rows) fun r h => hr r (by simp [h])
    have h2 := h r (hr r (by simp))
    have h3 : 0 < es.length := List.length_pos_iff.2 hes
    simp only [rowsSz, rowsBulk, List.length_cons]
    omega
mutual
theorem tsz_le : ∀ (lt : LT), neT lt = true → ∀ t, WtT lt t → tsz t + 1 ≤ tbulk t
  | .sc (.int k), _, t, h => by unfold WtT at h; obtain ⟨n, rfl, -⟩ := h; simp [tsz, tbulk]
  | .sc .bool, _, t, h => by unfold WtT at h; obtain ⟨n, rfl⟩ := h; simp [tsz, tbulk]
  | .sc .str, _, t, h => by unfold WtT at h; obtain ⟨n, rfl, -⟩ := h; simp [tsz, tbulk]
  | .sc .any, h, _, _ => by unfold neT at h; cases h
  | .sl es, hn, t, h => by
    unfold neT at hn
    simp only [Bool.and_eq_true, Bool.not_eq_true', List.isEmpty_eq_false_iff] at hn
    unfold WtT at h
    obtain ⟨rows, rfl, h⟩ := h
    have := rowsSz_le hn.1 (rowSz_le es hn.2) h
    simp only [tsz, tbulk]
    omega
theorem rowSz_le : ∀ (es : List LT), neTs es = true → ∀ r, WtRow es r → rowSz r + es.length ≤ rowBulk r
  | [], _, r, h => by unfold WtRow at h; subst h; simp [rowSz, rowBulk]
  | e :: es, hn, r, h => by
    unfold neTs at hn
    simp only [Bool.and_eq_true] at hn
    unfold WtRow at h
    obtain ⟨d, r, rfl, h1, h2⟩ := h
    have h3 := tsz_le e hn.1 d h1
    have h4 := rowSz_le es hn.2 r h2
    simp only [rowSz, rowBulk, List.length_cons]
    omega
end
theorem rowsBulk_mem : ∀ {rows : List (List T)} {r : List T}, r ∈ rows → rowBulk r ≤ rowsBulk rows
  | [], _, h => by cases h
  | x :: rows, r, h => by
    rcases List.mem_cons.1 h with rfl | h
    · simp only [rowsBulk]; omega
    · have := rowsBulk_mem h
      simp only [rowsBulk]; omega
theorem opRows {ops : List (List T)} (h : ∀ r ∈ ops, WtRow esOp r) (hb : rowsBulk ops ≤ 1048576) : (∀ r ∈ ops, OpRow r) ∧ ops.length ≤ 1048576 := by
  refine ⟨fun r hr => ?_, Nat.le_trans (wtRows_len (by simp) h) hb⟩
  have h1 := h r hr
  simp only [WtRow, WtT] at h1
  obtain ⟨_, _, rfl, ⟨a0, rfl, -⟩, _, _, rfl, ⟨a1, rfl, -⟩, _, _, rfl, ⟨a2, rfl, -⟩, rfl⟩ := h1
  refine ⟨a0, a1, a2, rfl, ?_⟩
  have := rowsBulk_mem hr
  simp only [rowBulk, tbulk] at this
  omega
theorem logsOk {shards : List (List T)} (h : ∀ r ∈ shards, WtRow esShard r) (hb : rowsBulk shards ≤ 1048576) : LogsOk shards := by
  intro s hs
  have hm : shards.getD s [] ∈ shards := by simp [List.getD, List.getElem?_eq_getElem hs]
  have h1 := h _ hm
  have h2 := rowsBulk_mem hm
  generalize shards.getD s [] = row at h1 h2
  simp only [esShard, WtRow, WtT] at h1
  obtain ⟨_, _, rfl, ⟨a0, rfl, -⟩, _, _, rfl, ⟨a1, rfl, h3⟩, _, _, rfl, ⟨a2, rfl, -⟩, _, _, rfl, ⟨a3, rfl, -⟩, _, _, rfl, ⟨a4, rfl, h4⟩, rfl⟩ := h1
  have := wtRows_len (es := esRec) (by simp) h3
  simp only [rowBulk, tbulk] at h2
  simp only [List.getD_cons_succ, List.getD_cons_zero, T.rows_l]
  omega
theorem ordersOk {orders : List (List T)} (h : ∀ r ∈ orders, WtRow esOrder r) (hb : rowsBulk orders ≤ 1048576) : OrdersOk orders := by
  intro s hs
  have hm : orders.getD s [] ∈ orders := by simp [List.getD, List.getElem?_eq_getElem hs]
  have h1 := h _ hm
  have h2 := rowsBulk_mem hm
  generalize orders.getD s [] = row at h1 h2
  simp only [esOrder, WtRow, WtT] at h1
  obtain ⟨_, _, rfl, ⟨a0, rfl, -⟩, _, _, rfl, ⟨a1, rfl, h3⟩, rfl⟩ := h1
  simp only [rowBulk, tbulk] at h2
  simp only [List.getD_cons_succ, List.getD_cons_zero, T.rows_l]
  exact opRows h3 (by omega)
theorem fnPromised_ok (a0 a1 a2 : Int) (a3 a4 : List (List T)) (a5 : Int) (a6 a7 a8 a9 : List (List T)) (h : WtRow esWorld [.i a0, .i a1, .i a2, .l a3, .l a4, .i a5, .l a6, .l a7, .l a8, .l a9])
    (hb : rowBulk [.i a0, .i a1, .i a2, .l a3, .l a4, .i a5, .l a6, .l a7, .l a8, .l a9] ≤ 1048576) (k : T → An) :
    laws_FnExactPromised 4194304 (.i a0) (.i a1) (.i a2) (.l a3) (.l a4) (.i a5) (.l a6) (.l a7) (.l a8) (.l a9) k = k (.b true) := by
  have hz := rowSz_le esWorld (by decide) _ h
  unfold esWorld at h hz
  simp only [List.length_cons, List.length_nil] at hz
  have h3 : ∀ r ∈ a3, WtRow esJob r := by simp only [WtRow, WtT] at h; obtain ⟨_, _, e, -, _, _, rfl, -, _, _, rfl, -, _, _, rfl, ⟨_, rfl, h⟩, -⟩ := h; cases e; exact h
  have h4 : ∀ r ∈ a4, WtRow esChoice r := by simp only [WtRow, WtT] at h; obtain ⟨_, _, e, -, _, _, rfl, -, _, _, rfl, -, _, _, rfl, -, _, _, rfl, ⟨_, rfl, h⟩, -⟩ := h; cases e; exact h
  have h6 : ∀ r ∈ a6, WtRow esShard r := by simp only [WtRow, WtT] at h; obtain ⟨_, _, e, -, _, _, rfl, -, _, _, rfl, -, _, _, rfl, -, _, _, rfl, -, _, _, rfl, -, _, _, rfl, ⟨_, rfl, h⟩, -⟩ := h; cases e; exact h
  have h7 : ∀ r ∈ a7, WtRow esWord r := by simp only [WtRow, WtT] at h; obtain ⟨_, _, e, -, _, _, rfl, -, _, _, rfl, -, _, _, rfl, -, _, _, rfl, -, _, _, rfl, -, _, _, rfl, -, _, _, rfl, ⟨_, rfl, h⟩, -⟩ := h; cases e; exact h
  have h8 : ∀ r ∈ a8, WtRow esWord r := by simp only [WtRow, WtT] at h; obtain ⟨_, _, e, -, _, _, rfl, -, _, _, rfl, -, _, _, rfl, -, _, _, rfl, -, _, _, rfl, -, _, _, rfl, -, _, _, rfl, -, _, _, rfl, ⟨_, rfl, h⟩, -⟩ := h; cases e; exact h
  have h9 : ∀ r ∈ a9, WtRow esOrder r := by simp only [WtRow, WtT] at h; obtain ⟨_, _, e, -, _, _, rfl, -, _, _, rfl, -, _, _, rfl, -, _, _, rfl, -, _, _, rfl, -, _, _, rfl, -, _, _, rfl, -, _, _, rfl, -, _, _, rfl, ⟨_, rfl, h⟩, -⟩ := h; cases e; exact h
  have hb' := hb
  simp only [rowBulk, tbulk] at hb'
  have l4 := wtRows_len (es := esChoice) (by simp) h4
  have l9 := wtRows_len (es := esOrder) (by simp) h9
  have z := szWorld_ok (m := 4194303) (by omega) a0 a1 a2 a3 a4 a5 a6 a7 a8 a9 h3 (by omega) h4 (by omega) h6 (by omega) h7 (by omega) h8 (by omega) h9 (by omega) 1048576 (by omega) (by omega)
  have t := toWorld_ok (m := 4194303) (by omega) a0 a1 a2 a3 a4 a5 a6 a7 a8 a9 h3 (by omega) h4 (by omega) h6 (by omega) h7 (by omega) h8 (by omega) h9 (by omega)
  have e := eqWorld_ok (m := 4194303) (by omega) a0 a1 a2 a3 a4 a5 a6 a7 a8 a9 h3 (by omega) h4 (by omega) h6 (by omega) h7 (by omega) h8 (by omega) h9 (by omega)
  have hS := logsOk h6 (by omega)
  have hO := ordersOk h9 (by omega)
  have p1 : ∀ k, spec_Promised 4194303 (.i a0) (.i a1) (.i a2) (.l a3) (.l a4) (.i a5) (.l a6) (.l a7) (.l a8) (.l a9) k = k (.b (choiceB a0 a6 a9 a4)) := fun k => by
    simp only [spec_Promised, T.rows_l]
    refine (specProm_loop hS hO (by omega) 4194302 (by omega) _ _ _ _ _ _ a4 [] (by simp; omega) 4194302 (by omega) _ _).trans ?_
    cases choiceB a0 a6 a9 a4 <;> rfl
  have p2 : ∀ k, impl_Promised 4194303 (.i a0) (.i a1) (.i a2) (.l a3) (.l a4) (.i a5) (.l a6) (.l a7) (.l a8) (.l a9) k = k (.b (choiceB a0 a6 a9 a4)) := fun k => by
    simp only [impl_Promised, T.rows_l]
    refine (implProm_loop hS hO (by omega) 4194302 (by omega) _ _ _ _ _ _ _ a4 [] (by simp; omega) 4194302 (by omega) _ _).trans ?_
    cases choiceB a0 a6 a9 a4 <;> rfl
  simp only [laws_FnExactPromised, T.rows_l, z, T.int_i, t]
  rw [dec_f (by omega), p1, p2]
  simp only [T.bool_b, beq_self_eq_true, Bool.not_true, cond_false, e]
end Go.Proofs.Ytmhiklfijdpebaa

