/- A part of the proof: texts S2L, S2A, S2B: see the last part's opening words. -/
import Derived.Test.YtajemijnfpakgaaA2
set_option linter.unusedVariables false
set_option linter.unusedSimpArgs false
set_option linter.unnecessarySimpa false
namespace Go.Proofs.Ytajemijnfpakgaa
open Go Go.E Go.Proofs
mutual
def tsz : T → Nat
  | .i _ => 0
  | .b _ => 0
  | .s s => s.size
  | .l rows => rows.length + rowsSz rows
  | .x _ => 0
def rowSz : List T → Nat
  | [] => 0
  | d :: ds => tsz d + rowSz ds
def rowsSz : List (List T) → Nat
  | [] => 0
  | r :: rs => rowSz r + rowsSz rs
end
theorem rowsSz_app : ∀ a b : List (List T), rowsSz (a ++ b) = rowsSz a + rowsSz b
  | [], b => by simp [rowsSz]
  | x :: a, b => by simp only [List.cons_append, rowsSz, rowsSz_app a b]; omega
theorem rowsBulk_app : ∀ a b : List (List T), rowsBulk (a ++ b) = rowsBulk a + rowsBulk b
  | [], b => by simp [rowsBulk]
  | x :: a, b => by simp only [List.cons_append, rowsBulk, rowsBulk_app a b]; omega
theorem ix_row (pre : List (List T)) (x : List T) (post : List (List T)) : (pre ++ x :: post).getD (Int.toNat (pre.length : Int)) [] = x := by simp [List.getD]
theorem ix_nx {α : Type} (pre : List α) (h : pre.length < 4611686018427387904) : IntKind.i64.wrap ((pre.length : Int) + 1) = (pre.length : Int) + 1 := wrap_i64 (by omega) (by omega)
theorem len_snoc {α : Type} (pre : List α) (x : α) : (((pre ++ [x]).length : Nat) : Int) = (pre.length : Int) + 1 := by simp
theorem set_row (pre : List (List T)) (x y : List T) (post : List (List T)) : (pre ++ x :: post).set (Int.toNat (pre.length : Int)) y = pre ++ y :: post := by simp [List.set_append]
theorem wtRow_ne {es : List LT} (hes : es ≠ []) {r : List T} (h : WtRow es r) : 1 ≤ rowBulk r := by
  match es, hes with
  | e :: es, _ =>
    unfold WtRow at h
    obtain ⟨d, r, rfl, -, -⟩ := h
    have : 1 ≤ tbulk d := by cases d <;> simp [tbulk]
    simp only [rowBulk]; omega
theorem wtRows_len {es : List LT} (hes : es ≠ []) : ∀ {rows : List (List T)}, (∀ r ∈ rows, WtRow es r) → rows.length ≤ rowsBulk rows
  | [], _ => by simp [rowsBulk]
  | r :: rows, h => by
    have h1 := wtRow_ne hes (h r (by simp))
    have h2 := wtRows_len hes (rows := rows) fun r hr => h r (by simp [hr])
    simp only [rowsBulk, List.length_cons]; omega
abbrev esOp : List LT := [.sc (.int .i64), .sc .str, .sc .str]
theorem toOp_ok {m : Nat} (hm : 1048602 ≤ m) (a0 : Int) (a1 : ByteArray) (a2 : ByteArray)  (k : T → T → T → An) : laws_toOp m (.i a0) (.s a1) (.s a2) k = k (.i a0) (.s a1) (.s a2) := by
  obtain ⟨m, rfl⟩ : ∃ m', m = m' + 1 := ⟨m - 1, by omega⟩
  simp only [laws_toOp, T.rows_l]
theorem toOpS_loop (m : Nat) (hm : 1048602 ≤ m) : ∀ (post pre z : List (List T)), (∀ r ∈ post, WtRow esOp r) → rowsBulk post ≤ 1048576 → z.length = post.length → (∀ r ∈ z, r.length = 3) → pre.length + post.length ≤ 1048576 →
    ∀ n, post.length < n → ∀ k0, laws_toOpS_L0_0 m n (.l (pre ++ post)) (.i pre.length) (.l (pre ++ z)) k0 = k0 (.l (pre ++ post))
  | [], pre, z, h, hb, hz, hz2, hs, n, hn, k0 => by
    obtain ⟨n, rfl⟩ : ∃ m', n = m' + 1 := ⟨n - 1, by omega⟩
    obtain rfl : z = [] := List.eq_nil_of_length_eq_zero hz
    simp only [laws_toOpS_L0_0, T.int_i, T.rows_l]
    rw [dec_f (by simp)]
  | x :: post, pre, z, h, hb, hz, hz2, hs, n, hn, k0 => by
    obtain ⟨n, rfl⟩ : ∃ m', n = m' + 1 := ⟨n - 1, by omega⟩
    simp only [List.length_cons] at hs hn hz
    match z, hz, hz2 with
    | r :: z, hz, hz2 =>
    simp only [List.length_cons] at hz
    match r, hz2 r (by simp) with
    | [c0, c1, c2], _ =>
    have ih := toOpS_loop m hm post (pre ++ [x]) z (fun r hr => h r (by simp [hr])) (by simp only [rowsBulk] at hb; omega) (by omega) (fun r hr => hz2 r (by simp [hr])) (by simp; omega) n (by omega) k0
    have hx := h x (by simp)
    simp only [esOp, WtRow, WtT] at hx
    obtain ⟨_, _, rfl, ⟨a0, rfl, -⟩, _, _, rfl, ⟨a1, rfl, -⟩, _, _, rfl, ⟨a2, rfl, -⟩, rfl⟩ := hx
    simp only [rowsBulk, rowBulk, tbulk] at hb
    simp only [laws_toOpS_L0_0, T.int_i, T.rows_l, ix_row, ix_nx pre (by omega), set_row, List.getD_cons_zero, List.getD_cons_succ, List.set_cons_zero, List.set_cons_succ]
    rw [dec_t (by simp; omega), dec_t (by simp; omega)]
    rw [toOp_ok (by omega) a0 a1 a2, dec_t (by simp; omega), dec_t (by simp)]
    simpa using ih
theorem toOpS_ok {m : Nat} (hm : 1048603 ≤ m) (rows : List (List T)) (h : ∀ r ∈ rows, WtRow esOp r) (hb : rowsBulk rows ≤ 1048576) (k : T → An) : laws_toOpS m (.l rows) k = k (.l rows) := by
  obtain ⟨m, rfl⟩ : ∃ m', m = m' + 1 := ⟨m - 1, by omega⟩
  have hl := wtRows_len (by simp) h
  simp only [laws_toOpS, T.rows_l, T.int_i]
  rw [dec_t (by omega), dec_t (by unfold maxCells; omega)]
  exact toOpS_loop m (by omega) rows [] (List.replicate _ _) h hb (by simp) (fun r hr => by rw [List.eq_of_mem_replicate hr]; rfl) (by simp; omega) m (by omega) _
theorem szOp_ok {m : Nat} (hm : 1048602 ≤ m) (a0 : Int) (a1 : ByteArray) (a2 : ByteArray)  (l : Int) (hl : (rowSz [.i a0, .s a1, .s a2] : Int) ≤ l) (hl2 : l ≤ 1048576) (k : T → An) : laws_szOp m (.i a0) (.s a1) (.s a2) (.i l) k = k (.i (l - (rowSz [.i a0, .s a1, .s a2] : Nat))) := by
  obtain ⟨m, rfl⟩ : ∃ m', m = m' + 1 := ⟨m - 1, by omega⟩
  simp only [rowSz, tsz] at hl ⊢
  simp only [laws_szOp, T.rows_l, T.int_i, T.str_s]
  rw [show IntKind.i64.wrap (l - (a1.size : Int)) = l - (a1.size : Int) from wrap_i64 (by omega) (by omega)]
  rw [dec_f (by omega)]
  rw [show IntKind.i64.wrap ((l - (a1.size : Int)) - (a2.size : Int)) = (l - (a1.size : Int)) - (a2.size : Int) from wrap_i64 (by omega) (by omega)]
  rw [dec_f (by omega)]
  congr 2; omega
theorem szOpS_loop (m : Nat) (hm : 1048602 ≤ m) : ∀ (post pre : List (List T)) (l : Int), (∀ r ∈ post, WtRow esOp r) → rowsBulk post ≤ 1048576 → (rowsSz post : Int) ≤ l → l ≤ 1048576 → pre.length + post.length ≤ 1048576 →
    ∀ n, post.length < n → ∀ k0 k1, laws_szOpS_L0_0 m n (.l (pre ++ post)) (.i l) (.i pre.length) k0 k1 = k1 (.i (l - rowsSz post))
  | [], pre, l, h, hb, hl, hl2, hs, n, hn, k0, k1 => by
    obtain ⟨n, rfl⟩ : ∃ m', n = m' + 1 := ⟨n - 1, by omega⟩
    simp only [laws_szOpS_L0_0, T.int_i, T.rows_l]
    rw [dec_f (by simp)]
    simp [rowsSz]
  | x :: post, pre, l, h, hb, hl, hl2, hs, n, hn, k0, k1 => by
    obtain ⟨n, rfl⟩ : ∃ m', n = m' + 1 := ⟨n - 1, by omega⟩
    simp only [List.length_cons] at hs hn
    simp only [rowsSz] at hl ⊢
    have ih := fun l hl hl2 => szOpS_loop m hm post (pre ++ [x]) l (fun r hr => h r (by simp [hr])) (by simp only [rowsBulk] at hb; omega) hl hl2 (by simp; omega) n (by omega) k0 k1
    have hx := h x (by simp)
    simp only [esOp, WtRow, WtT] at hx
    obtain ⟨_, _, rfl, ⟨a0, rfl, -⟩, _, _, rfl, ⟨a1, rfl, -⟩, _, _, rfl, ⟨a2, rfl, -⟩, rfl⟩ := hx
    simp only [rowsBulk, rowBulk, tbulk] at hb
    simp only [laws_szOpS_L0_0, T.int_i, T.rows_l, ix_row, ix_nx pre (by omega), List.getD_cons_zero, List.getD_cons_succ]
    rw [dec_t (by simp; omega), dec_t (by simp; omega)]
    rw [szOp_ok (by omega) a0 a1 a2 l (by omega) hl2, T.int_i, dec_f (by omega)]
    have := ih (l - (rowSz [.i a0, .s a1, .s a2] : Nat)) (by omega) (by omega)
    simp only [List.append_assoc, List.cons_append, List.nil_append, len_snoc] at this
    refine this.trans ?_
    congr 2; omega
theorem szOpS_ok {m : Nat} (hm : 1048603 ≤ m) (rows : List (List T)) (h : ∀ r ∈ rows, WtRow esOp r) (hb : rowsBulk rows ≤ 1048576) (l : Int) (hl : ((rows.length + rowsSz rows : Nat) : Int) ≤ l) (hl2 : l ≤ 1048576) (k : T → An) : laws_szOpS m (.l rows) (.i l) k = k (.i (l - (rows.length + rowsSz rows : Nat))) := by
  obtain ⟨m, rfl⟩ : ∃ m', m = m' + 1 := ⟨m - 1, by omega⟩
  have hlen := wtRows_len (by simp) h
  simp only [laws_szOpS, T.rows_l, T.int_i]
  rw [show IntKind.i64.wrap (l - (rows.length : Int)) = l - (rows.length : Int) from wrap_i64 (by omega) (by omega), dec_f (by omega)]
  refine (szOpS_loop m (by omega) rows [] (l - rows.length) h hb (by omega) (by omega) (by simp; omega) m (by omega) _ _).trans ?_
  congr 2; omega
theorem eqOp_ok {m : Nat} (hm : 1048602 ≤ m) (a0 : Int) (a1 : ByteArray) (a2 : ByteArray)  (k : T → An) : laws_eqOp m (.i a0) (.s a1) (.s a2) (.i a0) (.s a1) (.s a2) k = k (.b true) := by
  obtain ⟨m, rfl⟩ : ∃ m', m = m' + 1 := ⟨m - 1, by omega⟩
  simp only [laws_eqOp, T.rows_l, T.int_i, T.str_s, T.bool_b, bne_self_eq_false, beq_toList_self, beq_self_eq_true, Bool.not_true, cond_false]
theorem eqOpS_loop (m : Nat) (hm : 1048602 ≤ m) : ∀ (post pre : List (List T)), (∀ r ∈ post, WtRow esOp r) → rowsBulk post ≤ 1048576 → pre.length + post.length ≤ 1048576 →
    ∀ n, post.length < n → ∀ k0 k1, laws_eqOpS_L0_0 m n (.l (pre ++ post)) (.l (pre ++ post)) (.i pre.length) k0 k1 = k1
  | [], pre, h, hb, hs, n, hn, k0, k1 => by
    obtain ⟨n, rfl⟩ : ∃ m', n = m' + 1 := ⟨n - 1, by omega⟩
    simp only [laws_eqOpS_L0_0, T.int_i, T.rows_l]
    rw [dec_f (by simp)]
  | x :: post, pre, h, hb, hs, n, hn, k0, k1 => by
    obtain ⟨n, rfl⟩ : ∃ m', n = m' + 1 := ⟨n - 1, by omega⟩
    simp only [List.length_cons] at hs hn
    have ih := eqOpS_loop m hm post (pre ++ [x]) (fun r hr => h r (by simp [hr])) (by simp only [rowsBulk] at hb; omega) (by simp; omega) n (by omega) k0 k1
    have hx := h x (by simp)
    simp only [esOp, WtRow, WtT] at hx
    obtain ⟨_, _, rfl, ⟨a0, rfl, -⟩, _, _, rfl, ⟨a1, rfl, -⟩, _, _, rfl, ⟨a2, rfl, -⟩, rfl⟩ := hx
    simp only [rowsBulk, rowBulk, tbulk] at hb
    simp only [laws_eqOpS_L0_0, T.int_i, T.rows_l, ix_row, ix_nx pre (by omega), List.getD_cons_zero, List.getD_cons_succ]
    rw [dec_t (by simp; omega), dec_t (by simp; omega), dec_t (by simp; omega)]
    rw [eqOp_ok (by omega) a0 a1 a2]
    simpa using ih
theorem eqOpS_ok {m : Nat} (hm : 1048603 ≤ m) (rows : List (List T)) (h : ∀ r ∈ rows, WtRow esOp r) (hb : rowsBulk rows ≤ 1048576) (k : T → An) : laws_eqOpS m (.l rows) (.l rows) k = k (.b true) := by
  obtain ⟨m, rfl⟩ : ∃ m', m = m' + 1 := ⟨m - 1, by omega⟩
  have hlen := wtRows_len (by simp) h
  simp only [laws_eqOpS, T.rows_l, T.int_i, bne_self_eq_false, cond_false]
  exact eqOpS_loop m (by omega) rows [] h hb (by simp; omega) m (by omega) _ _
abbrev esInt : List LT := [.sc (.int .i64)]
theorem toIntS_loop (m : Nat) (hm : 1048602 ≤ m) : ∀ (post pre z : List (List T)), (∀ r ∈ post, WtRow esInt r) → rowsBulk post ≤ 1048576 → z.length = post.length → (∀ r ∈ z, r.length = 1) → pre.length + post.length ≤ 1048576 →
    ∀ n, post.length < n → ∀ k0, laws_toIntS_L0_0 m n (.l (pre ++ post)) (.i pre.length) (.l (pre ++ z)) k0 = k0 (.l (pre ++ post))
  | [], pre, z, h, hb, hz, hz2, hs, n, hn, k0 => by
    obtain ⟨n, rfl⟩ : ∃ m', n = m' + 1 := ⟨n - 1, by omega⟩
    obtain rfl : z = [] := List.eq_nil_of_length_eq_zero hz
    simp only [laws_toIntS_L0_0, T.int_i, T.rows_l]
    rw [dec_f (by simp)]
  | x :: post, pre, z, h, hb, hz, hz2, hs, n, hn, k0 => by
    obtain ⟨n, rfl⟩ : ∃ m', n = m' + 1 := ⟨n - 1, by omega⟩
    simp only [List.length_cons] at hs hn hz
    match z, hz, hz2 with
    | r :: z, hz, hz2 =>
    simp only [List.length_cons] at hz
    match r, hz2 r (by simp) with
    | [c0], _ =>
    have ih := toIntS_loop m hm post (pre ++ [x]) z (fun r hr => h r (by simp [hr])) (by simp only [rowsBulk] at hb; omega) (by omega) (fun r hr => hz2 r (by simp [hr])) (by simp; omega) n (by omega) k0
    have hx := h x (by simp)
    simp only [esInt, WtRow, WtT] at hx
    obtain ⟨_, _, rfl, ⟨a0, rfl, -⟩, rfl⟩ := hx
    simp only [rowsBulk, rowBulk, tbulk] at hb
    simp only [laws_toIntS_L0_0, T.int_i, T.rows_l, ix_row, ix_nx pre (by omega), set_row, List.getD_cons_zero, List.getD_cons_succ, List.set_cons_zero, List.set_cons_succ]
    rw [dec_t (by simp; omega), dec_t (by simp; omega)]
    rw [dec_t (by simp; omega), dec_t (by simp)]
    simpa using ih
theorem toIntS_ok {m : Nat} (hm : 1048603 ≤ m) (rows : List (List T)) (h : ∀ r ∈ rows, WtRow esInt r) (hb : rowsBulk rows ≤ 1048576) (k : T → An) : laws_toIntS m (.l rows) k = k (.l rows) := by
  obtain ⟨m, rfl⟩ : ∃ m', m = m' + 1 := ⟨m - 1, by omega⟩
  have hl := wtRows_len (by simp) h
  simp only [laws_toIntS, T.rows_l, T.int_i]
  rw [dec_t (by omega), dec_t (by unfold maxCells; omega)]
  exact toIntS_loop m (by omega) rows [] (List.replicate _ _) h hb (by simp) (fun r hr => by rw [List.eq_of_mem_replicate hr]; rfl) (by simp; omega) m (by omega) _
theorem rowsInt_sz : ∀ {rows : List (List T)}, (∀ r ∈ rows, WtRow esInt r) → rowsSz rows = 0
  | [], _ => rfl
  | x :: rows, h => by
    have ih := rowsInt_sz (rows := rows) fun r hr => h r (by simp [hr])
    have hx := h x (by simp)
    simp only [esInt, WtRow, WtT] at hx
    obtain ⟨_, _, rfl, ⟨a0, rfl, -⟩, rfl⟩ := hx
    simp only [rowsSz, rowSz, tsz, ih]
theorem szIntS_ok {m : Nat} (hm : 1048603 ≤ m) (rows : List (List T)) (h : ∀ r ∈ rows, WtRow esInt r) (hb : rowsBulk rows ≤ 1048576) (l : Int) (hl : ((rows.length + rowsSz rows : Nat) : Int) ≤ l) (hl2 : l ≤ 1048576) (k : T → An) : laws_szIntS m (.l rows) (.i l) k = k (.i (l - (rows.length + rowsSz rows : Nat))) := by
  obtain ⟨m, rfl⟩ : ∃ m', m = m' + 1 := ⟨m - 1, by omega⟩
  have e := rowsInt_sz h
  rw [e] at hl ⊢
  have hlen := wtRows_len (by simp) h
  simp only [laws_szIntS, T.rows_l, T.int_i]
  rw [show IntKind.i64.wrap (l - (rows.length : Int)) = l - (rows.length : Int) from wrap_i64 (by omega) (by omega), dec_f (by omega)]
  congr 2
theorem eqIntS_loop (m : Nat) (hm : 1048602 ≤ m) : ∀ (post pre : List (List T)), (∀ r ∈ post, WtRow esInt r) → rowsBulk post ≤ 1048576 → pre.length + post.length ≤ 1048576 →
    ∀ n, post.length < n → ∀ k0 k1, laws_eqIntS_L0_0 m n (.l (pre ++ post)) (.l (pre ++ post)) (.i pre.length) k0 k1 = k1
  | [], pre, h, hb, hs, n, hn, k0, k1 => by
    obtain ⟨n, rfl⟩ : ∃ m', n = m' + 1 := ⟨n - 1, by omega⟩
    simp only [laws_eqIntS_L0_0, T.int_i, T.rows_l]
    rw [dec_f (by simp)]
  | x :: post, pre, h, hb, hs, n, hn, k0, k1 => by
    obtain ⟨n, rfl⟩ : ∃ m', n = m' + 1 := ⟨n - 1, by omega⟩
    simp only [List.length_cons] at hs hn
    have ih := eqIntS_loop m hm post (pre ++ [x]) (fun r hr => h r (by simp [hr])) (by simp only [rowsBulk] at hb; omega) (by simp; omega) n (by omega) k0 k1
    have hx := h x (by simp)
    simp only [esInt, WtRow, WtT] at hx
    obtain ⟨_, _, rfl, ⟨a0, rfl, -⟩, rfl⟩ := hx
    simp only [rowsBulk, rowBulk, tbulk] at hb
    simp only [laws_eqIntS_L0_0, T.int_i, T.rows_l, ix_row, ix_nx pre (by omega), List.getD_cons_zero, List.getD_cons_succ]
    rw [dec_t (by simp; omega), dec_t (by simp; omega), dec_t (by simp; omega)]
    simp only [T.int_i, bne_self_eq_false, cond_false]
    simpa using ih
theorem eqIntS_ok {m : Nat} (hm : 1048603 ≤ m) (rows : List (List T)) (h : ∀ r ∈ rows, WtRow esInt r) (hb : rowsBulk rows ≤ 1048576) (k : T → An) : laws_eqIntS m (.l rows) (.l rows) k = k (.b true) := by
  obtain ⟨m, rfl⟩ : ∃ m', m = m' + 1 := ⟨m - 1, by omega⟩
  have hlen := wtRows_len (by simp) h
  simp only [laws_eqIntS, T.rows_l, T.int_i, bne_self_eq_false, cond_false]
  exact eqIntS_loop m (by omega) rows [] h hb (by simp; omega) m (by omega) _ _
abbrev esJob : List LT := [.sc (.int .i64), .sl esOp, .sc (.int .i64), .sl esInt]
theorem toJob_ok {m : Nat} (hm : 1048606 ≤ m) (a0 : Int) (a1 : List (List T)) (a2 : Int) (a3 : List (List T)) (h1 : ∀ r ∈ a1, WtRow esOp r) (b1 : rowsBulk a1 ≤ 1048576) (h3 : ∀ r ∈ a3, WtRow esInt r) (b3 : rowsBulk a3 ≤ 1048576) (k : T → T → T → T → An) : laws_toJob m (.i a0) (.l a1) (.i a2) (.l a3) k = k (.i a0) (.l a1) (.i a2) (.l a3) := by
  obtain ⟨m, rfl⟩ : ∃ m', m = m' + 1 := ⟨m - 1, by omega⟩
  simp only [laws_toJob, T.rows_l]
  rw [toOpS_ok (by omega) a1 h1 b1]
  try simp only [T.rows_l]
  rw [toIntS_ok (by omega) a3 h3 b3]
  try simp only [T.rows_l]
theorem toJobS_loop (m : Nat) (hm : 1048606 ≤ m) : ∀ (post pre z : List (List T)), (∀ r ∈ post, WtRow esJob r) → rowsBulk post ≤ 1048576 → z.length = post.length → (∀ r ∈ z, r.length = 4) → pre.length + post.length ≤ 1048576 →
    ∀ n, post.length < n → ∀ k0, laws_toJobS_L0_0 m n (.l (pre ++ post)) (.i pre.length) (.l (pre ++ z)) k0 = k0 (.l (pre ++ post))
  | [], pre, z, h, hb, hz, hz2, hs, n, hn, k0 => by
    obtain ⟨n, rfl⟩ : ∃ m', n = m' + 1 := ⟨n - 1, by omega⟩
    obtain rfl : z = [] := List.eq_nil_of_length_eq_zero hz
    simp only [laws_toJobS_L0_0, T.int_i, T.rows_l]
    rw [dec_f (by simp)]
  | x :: post, pre, z, h, hb, hz, hz2, hs, n, hn, k0 => by
    obtain ⟨n, rfl⟩ : ∃ m', n = m' + 1 := ⟨n - 1, by omega⟩
    simp only [List.length_cons] at hs hn hz
    match z, hz, hz2 with
    | r :: z, hz, hz2 =>
    simp only [List.length_cons] at hz
    match r, hz2 r (by simp) with
    | [c0, c1, c2, c3], _ =>
    have ih := toJobS_loop m hm post (pre ++ [x]) z (fun r hr => h r (by simp [hr])) (by simp only [rowsBulk] at hb; omega) (by omega) (fun r hr => hz2 r (by simp [hr])) (by simp; omega) n (by omega) k0
    have hx := h x (by simp)
    simp only [esJob, WtRow, WtT] at hx
    obtain ⟨_, _, rfl, ⟨a0, rfl, -⟩, _, _, rfl, ⟨a1, rfl, h1⟩, _, _, rfl, ⟨a2, rfl, -⟩, _, _, rfl, ⟨a3, rfl, h3⟩, rfl⟩ := hx
    simp only [rowsBulk, rowBulk, tbulk] at hb
    simp only [laws_toJobS_L0_0, T.int_i, T.rows_l, ix_row, ix_nx pre (by omega), set_row, List.getD_cons_zero, List.getD_cons_succ, List.set_cons_zero, List.set_cons_succ]
    rw [dec_t (by simp; omega), dec_t (by simp; omega)]
    rw [toJob_ok (by omega) a0 a1 a2 a3 h1 (by omega) h3 (by omega), dec_t (by simp; omega), dec_t (by simp)]
    simpa using ih
theorem toJobS_ok {m : Nat} (hm : 1048607 ≤ m) (rows : List (List T)) (h : ∀ r ∈ rows, WtRow esJob r) (hb : rowsBulk rows ≤ 1048576) (k : T → An) : laws_toJobS m (.l rows) k = k (.l rows) := by
  obtain ⟨m, rfl⟩ : ∃ m', m = m' + 1 := ⟨m - 1, by omega⟩
  have hl := wtRows_len (by simp) h
  simp only [laws_toJobS, T.rows_l, T.int_i]
  rw [dec_t (by omega), dec_t (by unfold maxCells; omega)]
  exact toJobS_loop m (by omega) rows [] (List.replicate _ _) h hb (by simp) (fun r hr => by rw [List.eq_of_mem_replicate hr]; rfl) (by simp; omega) m (by omega) _
theorem szJob_ok {m : Nat} (hm : 1048606 ≤ m) (a0 : Int) (a1 : List (List T)) (a2 : Int) (a3 : List (List T)) (h1 : ∀ r ∈ a1, WtRow esOp r) (b1 : rowsBulk a1 ≤ 1048576) (h3 : ∀ r ∈ a3, WtRow esInt r) (b3 : rowsBulk a3 ≤ 1048576) (l : Int) (hl : (rowSz [.i a0, .l a1, .i a2, .l a3] : Int) ≤ l) (hl2 : l ≤ 1048576) (k : T → An) : laws_szJob m (.i a0) (.l a1) (.i a2) (.l a3) (.i l) k = k (.i (l - (rowSz [.i a0, .l a1, .i a2, .l a3] : Nat))) := by
  obtain ⟨m, rfl⟩ : ∃ m', m = m' + 1 := ⟨m - 1, by omega⟩
  simp only [rowSz, tsz] at hl ⊢
  simp only [laws_szJob, T.rows_l, T.int_i, T.str_s]
  rw [szOpS_ok (by omega) a1 h1 b1 l (by omega) (by omega), T.int_i, dec_f (by omega)]
  rw [szIntS_ok (by omega) a3 h3 b3 (l - ((a1.length + rowsSz a1 : Nat) : Int)) (by omega) (by omega), T.int_i, dec_f (by omega)]
  congr 2; omega
theorem szJobS_loop (m : Nat) (hm : 1048606 ≤ m) : ∀ (post pre : List (List T)) (l : Int), (∀ r ∈ post, WtRow esJob r) → rowsBulk post ≤ 1048576 → (rowsSz post : Int) ≤ l → l ≤ 1048576 → pre.length + post.length ≤ 1048576 →
    ∀ n, post.length < n → ∀ k0 k1, laws_szJobS_L0_0 m n (.l (pre ++ post)) (.i l) (.i pre.length) k0 k1 = k1 (.i (l - rowsSz post))
  | [], pre, l, h, hb, hl, hl2, hs, n, hn, k0, k1 => by
    obtain ⟨n, rfl⟩ : ∃ m', n = m' + 1 := ⟨n - 1, by omega⟩
    simp only [laws_szJobS_L0_0, T.int_i, T.rows_l]
    rw [dec_f (by simp)]
    simp [rowsSz]
  | x :: post, pre, l, h, hb, hl, hl2, hs, n, hn, k0, k1 => by
    obtain ⟨n, rfl⟩ : ∃ m', n = m' + 1 := ⟨n - 1, by omega⟩
    simp only [List.length_cons] at hs hn
    simp only [rowsSz] at hl ⊢
    have ih := fun l hl hl2 => szJobS_loop m hm post (pre ++ [x]) l (fun r hr => h r (by simp [hr])) (by simp only [rowsBulk] at hb; omega) hl hl2 (by simp; omega) n (by omega) k0 k1
    have hx := h x (by simp)
    simp only [esJob, WtRow, WtT] at hx
    obtain ⟨_, _, rfl, ⟨a0, rfl, -⟩, _, _, rfl, ⟨a1, rfl, h1⟩, _, _, rfl, ⟨a2, rfl, -⟩, _, _, rfl, ⟨a3, rfl, h3⟩, rfl⟩ := hx
    simp only [rowsBulk, rowBulk, tbulk] at hb
    simp only [laws_szJobS_L0_0, T.int_i, T.rows_l, ix_row, ix_nx pre (by omega), List.getD_cons_zero, List.getD_cons_succ]
    rw [dec_t (by simp; omega), dec_t (by simp; omega)]
    rw [szJob_ok (by omega) a0 a1 a2 a3 h1 (by omega) h3 (by omega) l (by omega) hl2, T.int_i, dec_f (by omega)]
    have := ih (l - (rowSz [.i a0, .l a1, .i a2, .l a3] : Nat)) (by omega) (by omega)
    simp only [List.append_assoc, List.cons_append, List.nil_append, len_snoc] at this
    refine this.trans ?_
    congr 2; omega
theorem szJobS_ok {m : Nat} (hm : 1048607 ≤ m) (rows : List (List T)) (h : ∀ r ∈ rows, WtRow esJob r) (hb : rowsBulk rows ≤ 1048576) (l : Int) (hl : ((rows.length + rowsSz rows : Nat) : Int) ≤ l) (hl2 : l ≤ 1048576) (k : T → An) : laws_szJobS m (.l rows) (.i l) k = k (.i (l - (rows.length + rowsSz rows : Nat))) := by
  obtain ⟨m, rfl⟩ : ∃ m', m = m' + 1 := ⟨m - 1, by omega⟩
  have hlen := wtRows_len (by simp) h
  simp only [laws_szJobS, T.rows_l, T.int_i]
  rw [show IntKind.i64.wrap (l - (rows.length : Int)) = l - (rows.length : Int) from wrap_i64 (by omega) (by omega), dec_f (by omega)]
  refine (szJobS_loop m (by omega) rows [] (l - rows.length) h hb (by omega) (by omega) (by simp; omega) m (by omega) _ _).trans ?_
  congr 2; omega
theorem eqJob_ok {m : Nat} (hm : 1048606 ≤ m) (a0 : Int) (a1 : List (List T)) (a2 : Int) (a3 : List (List T)) (h1 : ∀ r ∈ a1, WtRow esOp r) (b1 : rowsBulk a1 ≤ 1048576) (h3 : ∀ r ∈ a3, WtRow esInt r) (b3 : rowsBulk a3 ≤ 1048576) (k : T → An) : laws_eqJob m (.i a0) (.l a1) (.i a2) (.l a3) (.i a0) (.l a1) (.i a2) (.l a3) k = k (.b true) := by
  obtain ⟨m, rfl⟩ : ∃ m', m = m' + 1 := ⟨m - 1, by omega⟩
  simp only [laws_eqJob, T.rows_l, T.int_i, T.str_s, T.bool_b, bne_self_eq_false, beq_toList_self, beq_self_eq_true, Bool.not_true, cond_false, eqOpS_ok (m := m) (by omega) a1 h1 b1, eqIntS_ok (m := m) (by omega) a3 h3 b3]
theorem eqJobS_loop (m : Nat) (hm : 1048606 ≤ m) : ∀ (post pre : List (List T)), (∀ r ∈ post, WtRow esJob r) → rowsBulk post ≤ 1048576 → pre.length + post.length ≤ 1048576 →
    ∀ n, post.length < n → ∀ k0 k1, laws_eqJobS_L0_0 m n (.l (pre ++ post)) (.l (pre ++ post)) (.i pre.length) k0 k1 = k1
  | [], pre, h, hb, hs, n, hn, k0, k1 => by
    obtain ⟨n, rfl⟩ : ∃ m', n = m' + 1 := ⟨n - 1, by omega⟩
    simp only [laws_eqJobS_L0_0, T.int_i, T.rows_l]
    rw [dec_f (by simp)]
  | x :: post, pre, h, hb, hs, n, hn, k0, k1 => by
    obtain ⟨n, rfl⟩ : ∃ m', n = m' + 1 := ⟨n - 1, by omega⟩
    simp only [List.length_cons] at hs hn
    have ih := eqJobS_loop m hm post (pre ++ [x]) (fun r hr => h r (by simp [hr])) (by simp only [rowsBulk] at hb; omega) (by simp; omega) n (by omega) k0 k1
    have hx := h x (by simp)
    simp only [esJob, WtRow, WtT] at hx
    obtain ⟨_, _, rfl, ⟨a0, rfl, -⟩, _, _, rfl, ⟨a1, rfl, h1⟩, _, _, rfl, ⟨a2, rfl, -⟩, _, _, rfl, ⟨a3, rfl, h3⟩, rfl⟩ := hx
    simp only [rowsBulk, rowBulk, tbulk] at hb
    simp only [laws_eqJobS_L0_0, T.int_i, T.rows_l, ix_row, ix_nx pre (by omega), List.getD_cons_zero, List.getD_cons_succ]
    rw [dec_t (by simp; omega), dec_t (by simp; omega), dec_t (by simp; omega)]
    rw [eqJob_ok (by omega) a0 a1 a2 a3 h1 (by omega) h3 (by omega)]
    simpa using ih
theorem eqJobS_ok {m : Nat} (hm : 1048607 ≤ m) (rows : List (List T)) (h : ∀ r ∈ rows, WtRow esJob r) (hb : rowsBulk rows ≤ 1048576) (k : T → An) : laws_eqJobS m (.l rows) (.l rows) k = k (.b true) := by
  obtain ⟨m, rfl⟩ : ∃ m', m = m' + 1 := ⟨m - 1, by omega⟩
  have hlen := wtRows_len (by simp) h
  simp only [laws_eqJobS, T.rows_l, T.int_i, bne_self_eq_false, cond_false]
  exact eqJobS_loop m (by omega) rows [] h hb (by simp; omega) m (by omega) _ _
abbrev esChoice : List LT := [.sc (.int .i64), .sc .bool]
theorem toChoice_ok {m : Nat} (hm : 1048602 ≤ m) (a0 : Int) (a1 : Bool)  (k : T → T → An) : laws_toChoice m (.i a0) (.b a1) k = k (.i a0) (.b a1) := by
  obtain ⟨m, rfl⟩ : ∃ m', m = m' + 1 := ⟨m - 1, by omega⟩
  simp only [laws_toChoice, T.rows_l]
theorem toChoiceS_loop (m : Nat) (hm : 1048602 ≤ m) : ∀ (post pre z : List (List T)), (∀ r ∈ post, WtRow esChoice r) → rowsBulk post ≤ 1048576 → z.length = post.length → (∀ r ∈ z, r.length = 2) → pre.length + post.length ≤ 1048576 →
    ∀ n, post.length < n → ∀ k0, laws_toChoiceS_L0_0 m n (.l (pre ++ post)) (.i pre.length) (.l (pre ++ z)) k0 = k0 (.l (pre ++ post))
  | [], pre, z, h, hb, hz, hz2, hs, n, hn, k0 => by
    obtain ⟨n, rfl⟩ : ∃ m', n = m' + 1 := ⟨n - 1, by omega⟩
    obtain rfl : z = [] := List.eq_nil_of_length_eq_zero hz
    simp only [laws_toChoiceS_L0_0, T.int_i, T.rows_l]
    rw [dec_f (by simp)]
  | x :: post, pre, z, h, hb, hz, hz2, hs, n, hn, k0 => by
    obtain ⟨n, rfl⟩ : ∃ m', n = m' + 1 := ⟨n - 1, by omega⟩
    simp only [List.length_cons] at hs hn hz
    match z, hz, hz2 with
    | r :: z, hz, hz2 =>
    simp only [List.length_cons] at hz
    match r, hz2 r (by simp) with
    | [c0, c1], _ =>
    have ih := toChoiceS_loop m hm post (pre ++ [x]) z (fun r hr => h r (by simp [hr])) (by simp only [rowsBulk] at hb; omega) (by omega) (fun r hr => hz2 r (by simp [hr])) (by simp; omega) n (by omega) k0
    have hx := h x (by simp)
    simp only [esChoice, WtRow, WtT] at hx
    obtain ⟨_, _, rfl, ⟨a0, rfl, -⟩, _, _, rfl, ⟨a1, rfl⟩, rfl⟩ := hx
    simp only [rowsBulk, rowBulk, tbulk] at hb
    simp only [laws_toChoiceS_L0_0, T.int_i, T.rows_l, ix_row, ix_nx pre (by omega), set_row, List.getD_cons_zero, List.getD_cons_succ, List.set_cons_zero, List.set_cons_succ]
    rw [dec_t (by simp; omega), dec_t (by simp; omega)]
    rw [toChoice_ok (by omega) a0 a1, dec_t (by simp; omega), dec_t (by simp)]
    simpa using ih
theorem toChoiceS_ok {m : Nat} (hm : 1048603 ≤ m) (rows : List (List T)) (h : ∀ r ∈ rows, WtRow esChoice r) (hb : rowsBulk rows ≤ 1048576) (k : T → An) : laws_toChoiceS m (.l rows) k = k (.l rows) := by
  obtain ⟨m, rfl⟩ : ∃ m', m = m' + 1 := ⟨m - 1, by omega⟩
  have hl := wtRows_len (by simp) h
  simp only [laws_toChoiceS, T.rows_l, T.int_i]
  rw [dec_t (by omega), dec_t (by unfold maxCells; omega)]
  exact toChoiceS_loop m (by omega) rows [] (List.replicate _ _) h hb (by simp) (fun r hr => by rw [List.eq_of_mem_replicate hr]; rfl) (by simp; omega) m (by omega) _
theorem rowsChoice_sz : ∀ {rows : List (List T)}, (∀ r ∈ rows, WtRow esChoice r) → rowsSz rows = 0
  | [], _ => rfl
  | x :: rows, h => by
    have ih := rowsChoice_sz (rows := rows) fun r hr => h r (by simp [hr])
    have hx := h x (by simp)
    simp only [esChoice, WtRow, WtT] at hx
    obtain ⟨_, _, rfl, ⟨a0, rfl, -⟩, _, _, rfl, ⟨a1, rfl⟩, rfl⟩ := hx
    simp only [rowsSz, rowSz, tsz, ih]
theorem szChoiceS_ok {m : Nat} (hm : 1048603 ≤ m) (rows : List (List T)) (h : ∀ r ∈ rows, WtRow esChoice r) (hb : rowsBulk rows ≤ 1048576) (l : Int) (hl : ((rows.length + rowsSz rows : Nat) : Int) ≤ l) (hl2 : l ≤ 1048576) (k : T → An) : laws_szChoiceS m (.l rows) (.i l) k = k (.i (l - (rows.length + rowsSz rows : Nat))) := by
  obtain ⟨m, rfl⟩ : ∃ m', m = m' + 1 := ⟨m - 1, by omega⟩
  have e := rowsChoice_sz h
  rw [e] at hl ⊢
  have hlen := wtRows_len (by simp) h
  simp only [laws_szChoiceS, T.rows_l, T.int_i]
  rw [show IntKind.i64.wrap (l - (rows.length : Int)) = l - (rows.length : Int) from wrap_i64 (by omega) (by omega), dec_f (by omega)]
  congr 2
theorem eqChoice_ok {m : Nat} (hm : 1048602 ≤ m) (a0 : Int) (a1 : Bool)  (k : T → An) : laws_eqChoice m (.i a0) (.b a1) (.i a0) (.b a1) k = k (.b true) := by
  obtain ⟨m, rfl⟩ : ∃ m', m = m' + 1 := ⟨m - 1, by omega⟩
  simp only [laws_eqChoice, T.rows_l, T.int_i, T.str_s, T.bool_b, bne_self_eq_false, beq_toList_self, beq_self_eq_true, Bool.not_true, cond_false]
theorem eqChoiceS_loop (m : Nat) (hm : 1048602 ≤ m) : ∀ (post pre : List (List T)), (∀ r ∈ post, WtRow esChoice r) → rowsBulk post ≤ 1048576 → pre.length + post.length ≤ 1048576 →
    ∀ n, post.length < n → ∀ k0 k1, laws_eqChoiceS_L0_0 m n (.l (pre ++ post)) (.l (pre ++ post)) (.i pre.length) k0 k1 = k1
  | [], pre, h, hb, hs, n, hn, k0, k1 => by
    obtain ⟨n, rfl⟩ : ∃ m', n = m' + 1 := ⟨n - 1, by omega⟩
    simp only [laws_eqChoiceS_L0_0, T.int_i, T.rows_l]
    rw [dec_f (by simp)]
  | x :: post, pre, h, hb, hs, n, hn, k0, k1 => by
    obtain ⟨n, rfl⟩ : ∃ m', n = m' + 1 := ⟨n - 1, by omega⟩
    simp only [List.length_cons] at hs hn
    have ih := eqChoiceS_loop m hm post (pre ++ [x]) (fun r hr => h r (by simp [hr])) (by simp only [rowsBulk] at hb; omega) (by simp; omega) n (by omega) k0 k1
    have hx := h x (by simp)
    simp only [esChoice, WtRow, WtT] at hx
    obtain ⟨_, _, rfl, ⟨a0, rfl, -⟩, _, _, rfl, ⟨a1, rfl⟩, rfl⟩ := hx
    simp only [rowsBulk, rowBulk, tbulk] at hb
    simp only [laws_eqChoiceS_L0_0, T.int_i, T.rows_l, ix_row, ix_nx pre (by omega), List.getD_cons_zero, List.getD_cons_succ]
    rw [dec_t (by simp; omega), dec_t (by simp; omega), dec_t (by simp; omega)]
    rw [eqChoice_ok (by omega) a0 a1]
    simpa using ih
theorem eqChoiceS_ok {m : Nat} (hm : 1048603 ≤ m) (rows : List (List T)) (h : ∀ r ∈ rows, WtRow esChoice r) (hb : rowsBulk rows ≤ 1048576) (k : T → An) : laws_eqChoiceS m (.l rows) (.l rows) k = k (.b true) := by
  obtain ⟨m, rfl⟩ : ∃ m', m = m' + 1 := ⟨m - 1, by omega⟩
  have hlen := wtRows_len (by simp) h
  simp only [laws_eqChoiceS, T.rows_l, T.int_i, bne_self_eq_false, cond_false]
  exact eqChoiceS_loop m (by omega) rows [] h hb (by simp; omega) m (by omega) _ _
abbrev esCoord : List LT := [.sc (.int .i64), .sc (.int .i64), .sc (.int .i64), .sl esJob, .sl esChoice, .sc (.int .i64)]
theorem toCoord_ok {m : Nat} (hm : 1048610 ≤ m) (a0 : Int) (a1 : Int) (a2 : Int) (a3 : List (List T)) (a4 : List (List T)) (a5 : Int) (h3 : ∀ r ∈ a3, WtRow esJob r) (b3 : rowsBulk a3 ≤ 1048576) (h4 : ∀ r ∈ a4, WtRow esChoice r) (b4 : rowsBulk a4 ≤ 1048576) (k : T → T → T → T → T → T → An) : laws_toCoord m (.i a0) (.i a1) (.i a2) (.l a3) (.l a4) (.i a5) k = k (.i a0) (.i a1) (.i a2) (.l a3) (.l a4) (.i a5) := by
  obtain ⟨m, rfl⟩ : ∃ m', m = m' + 1 := ⟨m - 1, by omega⟩
  simp only [laws_toCoord, T.rows_l]
  rw [toJobS_ok (by omega) a3 h3 b3]
  try simp only [T.rows_l]
  rw [toChoiceS_ok (by omega) a4 h4 b4]
  try simp only [T.rows_l]
theorem szCoord_ok {m : Nat} (hm : 1048610 ≤ m) (a0 : Int) (a1 : Int) (a2 : Int) (a3 : List (List T)) (a4 : List (List T)) (a5 : Int) (h3 : ∀ r ∈ a3, WtRow esJob r) (b3 : rowsBulk a3 ≤ 1048576) (h4 : ∀ r ∈ a4, WtRow esChoice r) (b4 : rowsBulk a4 ≤ 1048576) (l : Int) (hl : (rowSz [.i a0, .i a1, .i a2, .l a3, .l a4, .i a5] : Int) ≤ l) (hl2 : l ≤ 1048576) (k : T → An) : laws_szCoord m (.i a0) (.i a1) (.i a2) (.l a3) (.l a4) (.i a5) (.i l) k = k (.i (l - (rowSz [.i a0, .i a1, .i a2, .l a3, .l a4, .i a5] : Nat))) := by
  obtain ⟨m, rfl⟩ : ∃ m', m = m' + 1 := ⟨m - 1, by omega⟩
  simp only [rowSz, tsz] at hl ⊢
  simp only [laws_szCoord, T.rows_l, T.int_i, T.str_s]
  rw [szJobS_ok (by omega) a3 h3 b3 l (by omega) (by omega), T.int_i, dec_f (by omega)]
  rw [szChoiceS_ok (by omega) a4 h4 b4 (l - ((a3.length + rowsSz a3 : Nat) : Int)) (by omega) (by omega), T.int_i, dec_f (by omega)]
  congr 2; omega
theorem eqCoord_ok {m : Nat} (hm : 1048610 ≤ m) (a0 : Int) (a1 : Int) (a2 : Int) (a3 : List (List T)) (a4 : List (List T)) (a5 : Int) (h3 : ∀ r ∈ a3, WtRow esJob r) (b3 : rowsBulk a3 ≤ 1048576) (h4 : ∀ r ∈ a4, WtRow esChoice r) (b4 : rowsBulk a4 ≤ 1048576) (k : T → An) : laws_eqCoord m (.i a0) (.i a1) (.i a2) (.l a3) (.l a4) (.i a5) (.i a0) (.i a1) (.i a2) (.l a3) (.l a4) (.i a5) k = k (.b true) := by
  obtain ⟨m, rfl⟩ : ∃ m', m = m' + 1 := ⟨m - 1, by omega⟩
  simp only [laws_eqCoord, T.rows_l, T.int_i, T.str_s, T.bool_b, bne_self_eq_false, beq_toList_self, beq_self_eq_true, Bool.not_true, cond_false, eqJobS_ok (m := m) (by omega) a3 h3 b3, eqChoiceS_ok (m := m) (by omega) a4 h4 b4]
abbrev esRec : List LT := [.sc (.int .i64), .sc (.int .i64), .sl esOp]
theorem toRec_ok {m : Nat} (hm : 1048606 ≤ m) (a0 : Int) (a1 : Int) (a2 : List (List T)) (h2 : ∀ r ∈ a2, WtRow esOp r) (b2 : rowsBulk a2 ≤ 1048576) (k : T → T → T → An) : laws_toRec m (.i a0) (.i a1) (.l a2) k = k (.i a0) (.i a1) (.l a2) := by
  obtain ⟨m, rfl⟩ : ∃ m', m = m' + 1 := ⟨m - 1, by omega⟩
  simp only [laws_toRec, T.rows_l]
  rw [toOpS_ok (by omega) a2 h2 b2]
  try simp only [T.rows_l]
theorem toRecS_loop (m : Nat) (hm : 1048606 ≤ m) : ∀ (post pre z : List (List T)), (∀ r ∈ post, WtRow esRec r) → rowsBulk post ≤ 1048576 → z.length = post.length → (∀ r ∈ z, r.length = 3) → pre.length + post.length ≤ 1048576 →
    ∀ n, post.length < n → ∀ k0, laws_toRecS_L0_0 m n (.l (pre ++ post)) (.i pre.length) (.l (pre ++ z)) k0 = k0 (.l (pre ++ post))
  | [], pre, z, h, hb, hz, hz2, hs, n, hn, k0 => by
    obtain ⟨n, rfl⟩ : ∃ m', n = m' + 1 := ⟨n - 1, by omega⟩
    obtain rfl : z = [] := List.eq_nil_of_length_eq_zero hz
    simp only [laws_toRecS_L0_0, T.int_i, T.rows_l]
    rw [dec_f (by simp)]
  | x :: post, pre, z, h, hb, hz, hz2, hs, n, hn, k0 => by
    obtain ⟨n, rfl⟩ : ∃ m', n = m' + 1 := ⟨n - 1, by omega⟩
    simp only [List.length_cons] at hs hn hz
    match z, hz, hz2 with
    | r :: z, hz, hz2 =>
    simp only [List.length_cons] at hz
    match r, hz2 r (by simp) with
    | [c0, c1, c2], _ =>
    have ih := toRecS_loop m hm post (pre ++ [x]) z (fun r hr => h r (by simp [hr])) (by simp only [rowsBulk] at hb; omega) (by omega) (fun r hr => hz2 r (by simp [hr])) (by simp; omega) n (by omega) k0
    have hx := h x (by simp)
    simp only [esRec, WtRow, WtT] at hx
    obtain ⟨_, _, rfl, ⟨a0, rfl, -⟩, _, _, rfl, ⟨a1, rfl, -⟩, _, _, rfl, ⟨a2, rfl, h2⟩, rfl⟩ := hx
    simp only [rowsBulk, rowBulk, tbulk] at hb
    simp only [laws_toRecS_L0_0, T.int_i, T.rows_l, ix_row, ix_nx pre (by omega), set_row, List.getD_cons_zero, List.getD_cons_succ, List.set_cons_zero, List.set_cons_succ]
    rw [dec_t (by simp; omega), dec_t (by simp; omega)]
    rw [toRec_ok (by omega) a0 a1 a2 h2 (by omega), dec_t (by simp; omega), dec_t (by simp)]
    simpa using ih
theorem toRecS_ok {m : Nat} (hm : 1048607 ≤ m) (rows : List (List T)) (h : ∀ r ∈ rows, WtRow esRec r) (hb : rowsBulk rows ≤ 1048576) (k : T → An) : laws_toRecS m (.l rows) k = k (.l rows) := by
  obtain ⟨m, rfl⟩ : ∃ m', m = m' + 1 := ⟨m - 1, by omega⟩
  have hl := wtRows_len (by simp) h
  simp only [laws_toRecS, T.rows_l, T.int_i]
  rw [dec_t (by omega), dec_t (by unfold maxCells; omega)]
  exact toRecS_loop m (by omega) rows [] (List.replicate _ _) h hb (by simp) (fun r hr => by rw [List.eq_of_mem_replicate hr]; rfl) (by simp; omega) m (by omega) _
theorem szRec_ok {m : Nat} (hm : 1048606 ≤ m) (a0 : Int) (a1 : Int) (a2 : List (List T)) (h2 : ∀ r ∈ a2, WtRow esOp r) (b2 : rowsBulk a2 ≤ 1048576) (l : Int) (hl : (rowSz [.i a0, .i a1, .l a2] : Int) ≤ l) (hl2 : l ≤ 1048576) (k : T → An) : laws_szRec m (.i a0) (.i a1) (.l a2) (.i l) k = k (.i (l - (rowSz [.i a0, .i a1, .l a2] : Nat))) := by
  obtain ⟨m, rfl⟩ : ∃ m', m = m' + 1 := ⟨m - 1, by omega⟩
  simp only [rowSz, tsz] at hl ⊢
  simp only [laws_szRec, T.rows_l, T.int_i, T.str_s]
  rw [szOpS_ok (by omega) a2 h2 b2 l (by omega) (by omega), T.int_i, dec_f (by omega)]
  congr 2; omega
theorem szRecS_loop (m : Nat) (hm : 1048606 ≤ m) : ∀ (post pre : List (List T)) (l : Int), (∀ r ∈ post, WtRow esRec r) → rowsBulk post ≤ 1048576 → (rowsSz post : Int) ≤ l → l ≤ 1048576 → pre.length + post.length ≤ 1048576 →
    ∀ n, post.length < n → ∀ k0 k1, laws_szRecS_L0_0 m n (.l (pre ++ post)) (.i l) (.i pre.length) k0 k1 = k1 (.i (l - rowsSz post))
  | [], pre, l, h, hb, hl, hl2, hs, n, hn, k0, k1 => by
    obtain ⟨n, rfl⟩ : ∃ m', n = m' + 1 := ⟨n - 1, by omega⟩
    simp only [laws_szRecS_L0_0, T.int_i, T.rows_l]
    rw [dec_f (by simp)]
    simp [rowsSz]
  | x :: post, pre, l, h, hb, hl, hl2, hs, n, hn, k0, k1 => by
    obtain ⟨n, rfl⟩ : ∃ m', n = m' + 1 := ⟨n - 1, by omega⟩
    simp only [List.length_cons] at hs hn
    simp only [rowsSz] at hl ⊢
    have ih := fun l hl hl2 => szRecS_loop m hm post (pre ++ [x]) l (fun r hr => h r (by simp [hr])) (by simp only [rowsBulk] at hb; omega) hl hl2 (by simp; omega) n (by omega) k0 k1
    have hx := h x (by simp)
    simp only [esRec, WtRow, WtT] at hx
    obtain ⟨_, _, rfl, ⟨a0, rfl, -⟩, _, _, rfl, ⟨a1, rfl, -⟩, _, _, rfl, ⟨a2, rfl, h2⟩, rfl⟩ := hx
    simp only [rowsBulk, rowBulk, tbulk] at hb
    simp only [laws_szRecS_L0_0, T.int_i, T.rows_l, ix_row, ix_nx pre (by omega), List.getD_cons_zero, List.getD_cons_succ]
    rw [dec_t (by simp; omega), dec_t (by simp; omega)]
    rw [szRec_ok (by omega) a0 a1 a2 h2 (by omega) l (by omega) hl2, T.int_i, dec_f (by omega)]
    have := ih (l - (rowSz [.i a0, .i a1, .l a2] : Nat)) (by omega) (by omega)
    simp only [List.append_assoc, List.cons_append, List.nil_append, len_snoc] at this
    refine this.trans ?_
    congr 2; omega
theorem szRecS_ok {m : Nat} (hm : 1048607 ≤ m) (rows : List (List T)) (h : ∀ r ∈ rows, WtRow esRec r) (hb : rowsBulk rows ≤ 1048576) (l : Int) (hl : ((rows.length + rowsSz rows : Nat) : Int) ≤ l) (hl2 : l ≤ 1048576) (k : T → An) : laws_szRecS m (.l rows) (.i l) k = k (.i (l - (rows.length + rowsSz rows : Nat))) := by
  obtain ⟨m, rfl⟩ : ∃ m', m = m' + 1 := ⟨m - 1, by omega⟩
  have hlen := wtRows_len (by simp) h
  simp only [laws_szRecS, T.rows_l, T.int_i]
  rw [show IntKind.i64.wrap (l - (rows.length : Int)) = l - (rows.length : Int) from wrap_i64 (by omega) (by omega), dec_f (by omega)]
  refine (szRecS_loop m (by omega) rows [] (l - rows.length) h hb (by omega) (by omega) (by simp; omega) m (by omega) _ _).trans ?_
  congr 2; omega
theorem eqRec_ok {m : Nat} (hm : 1048606 ≤ m) (a0 : Int) (a1 : Int) (a2 : List (List T)) (h2 : ∀ r ∈ a2, WtRow esOp r) (b2 : rowsBulk a2 ≤ 1048576) (k : T → An) : laws_eqRec m (.i a0) (.i a1) (.l a2) (.i a0) (.i a1) (.l a2) k = k (.b true) := by
  obtain ⟨m, rfl⟩ : ∃ m', m = m' + 1 := ⟨m - 1, by omega⟩
  simp only [laws_eqRec, T.rows_l, T.int_i, T.str_s, T.bool_b, bne_self_eq_false, beq_toList_self, beq_self_eq_true, Bool.not_true, cond_false, eqOpS_ok (m := m) (by omega) a2 h2 b2]
theorem eqRecS_loop (m : Nat) (hm : 1048606 ≤ m) : ∀ (post pre : List (List T)), (∀ r ∈ post, WtRow esRec r) → rowsBulk post ≤ 1048576 → pre.length + post.length ≤ 1048576 →
    ∀ n, post.length < n → ∀ k0 k1, laws_eqRecS_L0_0 m n (.l (pre ++ post)) (.l (pre ++ post)) (.i pre.length) k0 k1 = k1
  | [], pre, h, hb, hs, n, hn, k0, k1 => by
    obtain ⟨n, rfl⟩ : ∃ m', n = m' + 1 := ⟨n - 1, by omega⟩
    simp only [laws_eqRecS_L0_0, T.int_i, T.rows_l]
    rw [dec_f (by simp)]
  | x :: post, pre, h, hb, hs, n, hn, k0, k1 => by
    obtain ⟨n, rfl⟩ : ∃ m', n = m' + 1 := ⟨n - 1, by omega⟩
    simp only [List.length_cons] at hs hn
    have ih := eqRecS_loop m hm post (pre ++ [x]) (fun r hr => h r (by simp [hr])) (by simp only [rowsBulk] at hb; omega) (by simp; omega) n (by omega) k0 k1
    have hx := h x (by simp)
    simp only [esRec, WtRow, WtT] at hx
    obtain ⟨_, _, rfl, ⟨a0, rfl, -⟩, _, _, rfl, ⟨a1, rfl, -⟩, _, _, rfl, ⟨a2, rfl, h2⟩, rfl⟩ := hx
    simp only [rowsBulk, rowBulk, tbulk] at hb
    simp only [laws_eqRecS_L0_0, T.int_i, T.rows_l, ix_row, ix_nx pre (by omega), List.getD_cons_zero, List.getD_cons_succ]
    rw [dec_t (by simp; omega), dec_t (by simp; omega), dec_t (by simp; omega)]
    rw [eqRec_ok (by omega) a0 a1 a2 h2 (by omega)]
    simpa using ih
theorem eqRecS_ok {m : Nat} (hm : 1048607 ≤ m) (rows : List (List T)) (h : ∀ r ∈ rows, WtRow esRec r) (hb : rowsBulk rows ≤ 1048576) (k : T → An) : laws_eqRecS m (.l rows) (.l rows) k = k (.b true) := by
  obtain ⟨m, rfl⟩ : ∃ m', m = m' + 1 := ⟨m - 1, by omega⟩
  have hlen := wtRows_len (by simp) h
  simp only [laws_eqRecS, T.rows_l, T.int_i, bne_self_eq_false, cond_false]
  exact eqRecS_loop m (by omega) rows [] h hb (by simp; omega) m (by omega) _ _
abbrev esPair : List LT := [.sc .str, .sc .str]
theorem toPair_ok {m : Nat} (hm : 1048602 ≤ m) (a0 : ByteArray) (a1 : ByteArray)  (k : T → T → An) : laws_toPair m (.s a0) (.s a1) k = k (.s a0) (.s a1) := by
  obtain ⟨m, rfl⟩ : ∃ m', m = m' + 1 := ⟨m - 1, by omega⟩
  simp only [laws_toPair, T.rows_l]
theorem toPairS_loop (m : Nat) (hm : 1048602 ≤ m) : ∀ (post pre z : List (List T)), (∀ r ∈ post, WtRow esPair r) → rowsBulk post ≤ 1048576 → z.length = post.length → (∀ r ∈ z, r.length = 2) → pre.length + post.length ≤ 1048576 →
    ∀ n, post.length < n → ∀ k0, laws_toPairS_L0_0 m n (.l (pre ++ post)) (.i pre.length) (.l (pre ++ z)) k0 = k0 (.l (pre ++ post))
  | [], pre, z, h, hb, hz, hz2, hs, n, hn, k0 => by
    obtain ⟨n, rfl⟩ : ∃ m', n = m' + 1 := ⟨n - 1, by omega⟩
    obtain rfl : z = [] := List.eq_nil_of_length_eq_zero hz
    simp only [laws_toPairS_L0_0, T.int_i, T.rows_l]
    rw [dec_f (by simp)]
  | x :: post, pre, z, h, hb, hz, hz2, hs, n, hn, k0 => by
    obtain ⟨n, rfl⟩ : ∃ m', n = m' + 1 := ⟨n - 1, by omega⟩
    simp only [List.length_cons] at hs hn hz
    match z, hz, hz2 with
    | r :: z, hz, hz2 =>
    simp only [List.length_cons] at hz
    match r, hz2 r (by simp) with
    | [c0, c1], _ =>
    have ih := toPairS_loop m hm post (pre ++ [x]) z (fun r hr => h r (by simp [hr])) (by simp only [rowsBulk] at hb; omega) (by omega) (fun r hr => hz2 r (by simp [hr])) (by simp; omega) n (by omega) k0
    have hx := h x (by simp)
    simp only [esPair, WtRow, WtT] at hx
    obtain ⟨_, _, rfl, ⟨a0, rfl, -⟩, _, _, rfl, ⟨a1, rfl, -⟩, rfl⟩ := hx
    simp only [rowsBulk, rowBulk, tbulk] at hb
    simp only [laws_toPairS_L0_0, T.int_i, T.rows_l, ix_row, ix_nx pre (by omega), set_row, List.getD_cons_zero, List.getD_cons_succ, List.set_cons_zero, List.set_cons_succ]
    rw [dec_t (by simp; omega), dec_t (by simp; omega)]
    rw [toPair_ok (by omega) a0 a1, dec_t (by simp; omega), dec_t (by simp)]
    simpa using ih
theorem toPairS_ok {m : Nat} (hm : 1048603 ≤ m) (rows : List (List T)) (h : ∀ r ∈ rows, WtRow esPair r) (hb : rowsBulk rows ≤ 1048576) (k : T → An) : laws_toPairS m (.l rows) k = k (.l rows) := by
  obtain ⟨m, rfl⟩ : ∃ m', m = m' + 1 := ⟨m - 1, by omega⟩
  have hl := wtRows_len (by simp) h
  simp only [laws_toPairS, T.rows_l, T.int_i]
  rw [dec_t (by omega), dec_t (by unfold maxCells; omega)]
  exact toPairS_loop m (by omega) rows [] (List.replicate _ _) h hb (by simp) (fun r hr => by rw [List.eq_of_mem_replicate hr]; rfl) (by simp; omega) m (by omega) _
theorem szPair_ok {m : Nat} (hm : 1048602 ≤ m) (a0 : ByteArray) (a1 : ByteArray)  (l : Int) (hl : (rowSz [.s a0, .s a1] : Int) ≤ l) (hl2 : l ≤ 1048576) (k : T → An) : laws_szPair m (.s a0) (.s a1) (.i l) k = k (.i (l - (rowSz [.s a0, .s a1] : Nat))) := by
  obtain ⟨m, rfl⟩ : ∃ m', m = m' + 1 := ⟨m - 1, by omega⟩
  simp only [rowSz, tsz] at hl ⊢
  simp only [laws_szPair, T.rows_l, T.int_i, T.str_s]
  rw [show IntKind.i64.wrap (l - (a0.size : Int)) = l - (a0.size : Int) from wrap_i64 (by omega) (by omega)]
  rw [dec_f (by omega)]
  rw [show IntKind.i64.wrap ((l - (a0.size : Int)) - (a1.size : Int)) = (l - (a0.size : Int)) - (a1.size : Int) from wrap_i64 (by omega) (by omega)]
  rw [dec_f (by omega)]
  congr 2; omega
theorem szPairS_loop (m : Nat) (hm : 1048602 ≤ m) : ∀ (post pre : List (List T)) (l : Int), (∀ r ∈ post, WtRow esPair r) → rowsBulk post ≤ 1048576 → (rowsSz post : Int) ≤ l → l ≤ 1048576 → pre.length + post.length ≤ 1048576 →
    ∀ n, post.length < n → ∀ k0 k1, laws_szPairS_L0_0 m n (.l (pre ++ post)) (.i l) (.i pre.length) k0 k1 = k1 (.i (l - rowsSz post))
  | [], pre, l, h, hb, hl, hl2, hs, n, hn, k0, k1 => by
    obtain ⟨n, rfl⟩ : ∃ m', n = m' + 1 := ⟨n - 1, by omega⟩
    simp only [laws_szPairS_L0_0, T.int_i, T.rows_l]
    rw [dec_f (by simp)]
    simp [rowsSz]
  | x :: post, pre, l, h, hb, hl, hl2, hs, n, hn, k0, k1 => by
    obtain ⟨n, rfl⟩ : ∃ m', n = m' + 1 := ⟨n - 1, by omega⟩
    simp only [List.length_cons] at hs hn
    simp only [rowsSz] at hl ⊢
    have ih := fun l hl hl2 => szPairS_loop m hm post (pre ++ [x]) l (fun r hr => h r (by simp [hr])) (by simp only [rowsBulk] at hb; omega) hl hl2 (by simp; omega) n (by omega) k0 k1
    have hx := h x (by simp)
    simp only [esPair, WtRow, WtT] at hx
    obtain ⟨_, _, rfl, ⟨a0, rfl, -⟩, _, _, rfl, ⟨a1, rfl, -⟩, rfl⟩ := hx
    simp only [rowsBulk, rowBulk, tbulk] at hb
    simp only [laws_szPairS_L0_0, T.int_i, T.rows_l, ix_row, ix_nx pre (by omega), List.getD_cons_zero, List.getD_cons_succ]
    rw [dec_t (by simp; omega), dec_t (by simp; omega)]
    rw [szPair_ok (by omega) a0 a1 l (by omega) hl2, T.int_i, dec_f (by omega)]
    have := ih (l - (rowSz [.s a0, .s a1] : Nat)) (by omega) (by omega)
    simp only [List.append_assoc, List.cons_append, List.nil_append, len_snoc] at this
    refine this.trans ?_
    congr 2; omega
theorem szPairS_ok {m : Nat} (hm : 1048603 ≤ m) (rows : List (List T)) (h : ∀ r ∈ rows, WtRow esPair r) (hb : rowsBulk rows ≤ 1048576) (l : Int) (hl : ((rows.length + rowsSz rows : Nat) : Int) ≤ l) (hl2 : l ≤ 1048576) (k : T → An) : laws_szPairS m (.l rows) (.i l) k = k (.i (l - (rows.length + rowsSz rows : Nat))) := by
  obtain ⟨m, rfl⟩ : ∃ m', m = m' + 1 := ⟨m - 1, by omega⟩
  have hlen := wtRows_len (by simp) h
  simp only [laws_szPairS, T.rows_l, T.int_i]
  rw [show IntKind.i64.wrap (l - (rows.length : Int)) = l - (rows.length : Int) from wrap_i64 (by omega) (by omega), dec_f (by omega)]
  refine (szPairS_loop m (by omega) rows [] (l - rows.length) h hb (by omega) (by omega) (by simp; omega) m (by omega) _ _).trans ?_
  congr 2; omega
theorem eqPair_ok {m : Nat} (hm : 1048602 ≤ m) (a0 : ByteArray) (a1 : ByteArray)  (k : T → An) : laws_eqPair m (.s a0) (.s a1) (.s a0) (.s a1) k = k (.b true) := by
  obtain ⟨m, rfl⟩ : ∃ m', m = m' + 1 := ⟨m - 1, by omega⟩
  simp only [laws_eqPair, T.rows_l, T.int_i, T.str_s, T.bool_b, bne_self_eq_false, beq_toList_self, beq_self_eq_true, Bool.not_true, cond_false]
theorem eqPairS_loop (m : Nat) (hm : 1048602 ≤ m) : ∀ (post pre : List (List T)), (∀ r ∈ post, WtRow esPair r) → rowsBulk post ≤ 1048576 → pre.length + post.length ≤ 1048576 →
    ∀ n, post.length < n → ∀ k0 k1, laws_eqPairS_L0_0 m n (.l (pre ++ post)) (.l (pre ++ post)) (.i pre.length) k0 k1 = k1
  | [], pre, h, hb, hs, n, hn, k0, k1 => by
    obtain ⟨n, rfl⟩ : ∃ m', n = m' + 1 := ⟨n - 1, by omega⟩
    simp only [laws_eqPairS_L0_0, T.int_i, T.rows_l]
    rw [dec_f (by simp)]
  | x :: post, pre, h, hb, hs, n, hn, k0, k1 => by
    obtain ⟨n, rfl⟩ : ∃ m', n = m' + 1 := ⟨n - 1, by omega⟩
    simp only [List.length_cons] at hs hn
    have ih := eqPairS_loop m hm post (pre ++ [x]) (fun r hr => h r (by simp [hr])) (by simp only [rowsBulk] at hb; omega) (by simp; omega) n (by omega) k0 k1
    have hx := h x (by simp)
    simp only [esPair, WtRow, WtT] at hx
    obtain ⟨_, _, rfl, ⟨a0, rfl, -⟩, _, _, rfl, ⟨a1, rfl, -⟩, rfl⟩ := hx
    simp only [rowsBulk, rowBulk, tbulk] at hb
    simp only [laws_eqPairS_L0_0, T.int_i, T.rows_l, ix_row, ix_nx pre (by omega), List.getD_cons_zero, List.getD_cons_succ]
    rw [dec_t (by simp; omega), dec_t (by simp; omega), dec_t (by simp; omega)]
    rw [eqPair_ok (by omega) a0 a1]
    simpa using ih
theorem eqPairS_ok {m : Nat} (hm : 1048603 ≤ m) (rows : List (List T)) (h : ∀ r ∈ rows, WtRow esPair r) (hb : rowsBulk rows ≤ 1048576) (k : T → An) : laws_eqPairS m (.l rows) (.l rows) k = k (.b true) := by
  obtain ⟨m, rfl⟩ : ∃ m', m = m' + 1 := ⟨m - 1, by omega⟩
  have hlen := wtRows_len (by simp) h
  simp only [laws_eqPairS, T.rows_l, T.int_i, bne_self_eq_false, cond_false]
  exact eqPairS_loop m (by omega) rows [] h hb (by simp; omega) m (by omega) _ _
abbrev esShard : List LT := [.sc (.int .i64), .sl esRec, .sc (.int .i64), .sl esPair, .sl esRec]
theorem toShard_ok {m : Nat} (hm : 1048610 ≤ m) (a0 : Int) (a1 : List (List T)) (a2 : Int) (a3 : List (List T)) (a4 : List (List T)) (h1 : ∀ r ∈ a1, WtRow esRec r) (b1 : rowsBulk a1 ≤ 1048576) (h3 : ∀ r ∈ a3, WtRow esPair r) (b3 : rowsBulk a3 ≤ 1048576) (h4 : ∀ r ∈ a4, WtRow esRec r) (b4 : rowsBulk a4 ≤ 1048576) (k : T → T → T → T → T → An) : laws_toShard m (.i a0) (.l a1) (.i a2) (.l a3) (.l a4) k = k (.i a0) (.l a1) (.i a2) (.l a3) (.l a4) := by
  obtain ⟨m, rfl⟩ : ∃ m', m = m' + 1 := ⟨m - 1, by omega⟩
  simp only [laws_toShard, T.rows_l]
  rw [toRecS_ok (by omega) a1 h1 b1]
  try simp only [T.rows_l]
  rw [toPairS_ok (by omega) a3 h3 b3]
  try simp only [T.rows_l]
  rw [toRecS_ok (by omega) a4 h4 b4]
  try simp only [T.rows_l]
theorem toShardS_loop (m : Nat) (hm : 1048610 ≤ m) : ∀ (post pre z : List (List T)), (∀ r ∈ post, WtRow esShard r) → rowsBulk post ≤ 1048576 → z.length = post.length → (∀ r ∈ z, r.length = 5) → pre.length + post.length ≤ 1048576 →
    ∀ n, post.length < n → ∀ k0, laws_toShardS_L0_0 m n (.l (pre ++ post)) (.i pre.length) (.l (pre ++ z)) k0 = k0 (.l (pre ++ post))
  | [], pre, z, h, hb, hz, hz2, hs, n, hn, k0 => by
    obtain ⟨n, rfl⟩ : ∃ m', n = m' + 1 := ⟨n - 1, by omega⟩
    obtain rfl : z = [] := List.eq_nil_of_length_eq_zero hz
    simp only [laws_toShardS_L0_0, T.int_i, T.rows_l]
    rw [dec_f (by simp)]
  | x :: post, pre, z, h, hb, hz, hz2, hs, n, hn, k0 => by
    obtain ⟨n, rfl⟩ : ∃ m', n = m' + 1 := ⟨n - 1, by omega⟩
    simp only [List.length_cons] at hs hn hz
    match z, hz, hz2 with
    | r :: z, hz, hz2 =>
    simp only [List.length_cons] at hz
    match r, hz2 r (by simp) with
    | [c0, c1, c2, c3, c4], _ =>
    have ih := toShardS_loop m hm post (pre ++ [x]) z (fun r hr => h r (by simp [hr])) (by simp only [rowsBulk] at hb; omega) (by omega) (fun r hr => hz2 r (by simp [hr])) (by simp; omega) n (by omega) k0
    have hx := h x (by simp)
    simp only [esShard, WtRow, WtT] at hx
    obtain ⟨_, _, rfl, ⟨a0, rfl, -⟩, _, _, rfl, ⟨a1, rfl, h1⟩, _, _, rfl, ⟨a2, rfl, -⟩, _, _, rfl, ⟨a3, rfl, h3⟩, _, _, rfl, ⟨a4, rfl, h4⟩, rfl⟩ := hx
    simp only [rowsBulk, rowBulk, tbulk] at hb
    simp only [laws_toShardS_L0_0, T.int_i, T.rows_l, ix_row, ix_nx pre (by omega), set_row, List.getD_cons_zero, List.getD_cons_succ, List.set_cons_zero, List.set_cons_succ]
    rw [dec_t (by simp; omega), dec_t (by simp; omega)]
    rw [toShard_ok (by omega) a0 a1 a2 a3 a4 h1 (by omega) h3 (by omega) h4 (by omega), dec_t (by simp; omega), dec_t (by simp)]
    simpa using ih
theorem toShardS_ok {m : Nat} (hm : 1048611 ≤ m) (rows : List (List T)) (h : ∀ r ∈ rows, WtRow esShard r) (hb : rowsBulk rows ≤ 1048576) (k : T → An) : laws_toShardS m (.l rows) k = k (.l rows) := by
  obtain ⟨m, rfl⟩ : ∃ m', m = m' + 1 := ⟨m - 1, by omega⟩
  have hl := wtRows_len (by simp) h
  simp only [laws_toShardS, T.rows_l, T.int_i]
  rw [dec_t (by omega), dec_t (by unfold maxCells; omega)]
  exact toShardS_loop m (by omega) rows [] (List.replicate _ _) h hb (by simp) (fun r hr => by rw [List.eq_of_mem_replicate hr]; rfl) (by simp; omega) m (by omega) _
theorem szShard_ok {m : Nat} (hm : 1048610 ≤ m) (a0 : Int) (a1 : List (List T)) (a2 : Int) (a3 : List (List T)) (a4 : List (List T)) (h1 : ∀ r ∈ a1, WtRow esRec r) (b1 : rowsBulk a1 ≤ 1048576) (h3 : ∀ r ∈ a3, WtRow esPair r) (b3 : rowsBulk a3 ≤ 1048576) (h4 : ∀ r ∈ a4, WtRow esRec r) (b4 : rowsBulk a4 ≤ 1048576) (l : Int) (hl : (rowSz [.i a0, .l a1, .i a2, .l a3, .l a4] : Int) ≤ l) (hl2 : l ≤ 1048576) (k : T → An) : laws_szShard m (.i a0) (.l a1) (.i a2) (.l a3) (.l a4) (.i l) k = k (.i (l - (rowSz [.i a0, .l a1, .i a2, .l a3, .l a4] : Nat))) := by
  obtain ⟨m, rfl⟩ : ∃ m', m = m' + 1 := ⟨m - 1, by omega⟩
  simp only [rowSz, tsz] at hl ⊢
  simp only [laws_szShard, T.rows_l, T.int_i, T.str_s]
  rw [szRecS_ok (by omega) a1 h1 b1 l (by omega) (by omega), T.int_i, dec_f (by omega)]
  rw [szPairS_ok (by omega) a3 h3 b3 (l - ((a1.length + rowsSz a1 : Nat) : Int)) (by omega) (by omega), T.int_i, dec_f (by omega)]
  rw [szRecS_ok (by omega) a4 h4 b4 ((l - ((a1.length + rowsSz a1 : Nat) : Int)) - ((a3.length + rowsSz a3 : Nat) : Int)) (by omega) (by omega), T.int_i, dec_f (by omega)]
  congr 2; omega
theorem szShardS_loop (m : Nat) (hm : 1048610 ≤ m) : ∀ (post pre : List (List T)) (l : Int), (∀ r ∈ post, WtRow esShard r) → rowsBulk post ≤ 1048576 → (rowsSz post : Int) ≤ l → l ≤ 1048576 → pre.length + post.length ≤ 1048576 →
    ∀ n, post.length < n → ∀ k0 k1, laws_szShardS_L0_0 m n (.l (pre ++ post)) (.i l) (.i pre.length) k0 k1 = k1 (.i (l - rowsSz post))
  | [], pre, l, h, hb, hl, hl2, hs, n, hn, k0, k1 => by
    obtain ⟨n, rfl⟩ : ∃ m', n = m' + 1 := ⟨n - 1, by omega⟩
    simp only [laws_szShardS_L0_0, T.int_i, T.rows_l]
    rw [dec_f (by simp)]
    simp [rowsSz]
  | x :: post, pre, l, h, hb, hl, hl2, hs, n, hn, k0, k1 => by
    obtain ⟨n, rfl⟩ : ∃ m', n = m' + 1 := ⟨n - 1, by omega⟩
    simp only [List.length_cons] at hs hn
    simp only [rowsSz] at hl ⊢
    have ih := fun l hl hl2 => szShardS_loop m hm post (pre ++ [x]) l (fun r hr => h r (by simp [hr])) (by simp only [rowsBulk] at hb; omega) hl hl2 (by simp; omega) n (by omega) k0 k1
    have hx := h x (by simp)
    simp only [esShard, WtRow, WtT] at hx
    obtain ⟨_, _, rfl, ⟨a0, rfl, -⟩, _, _, rfl, ⟨a1, rfl, h1⟩, _, _, rfl, ⟨a2, rfl, -⟩, _, _, rfl, ⟨a3, rfl, h3⟩, _, _, rfl, ⟨a4, rfl, h4⟩, rfl⟩ := hx
    simp only [rowsBulk, rowBulk, tbulk] at hb
    simp only [laws_szShardS_L0_0, T.int_i, T.rows_l, ix_row, ix_nx pre (by omega), List.getD_cons_zero, List.getD_cons_succ]
    rw [dec_t (by simp; omega), dec_t (by simp; omega)]
    rw [szShard_ok (by omega) a0 a1 a2 a3 a4 h1 (by omega) h3 (by omega) h4 (by omega) l (by omega) hl2, T.int_i, dec_f (by omega)]
    have := ih (l - (rowSz [.i a0, .l a1, .i a2, .l a3, .l a4] : Nat)) (by omega) (by omega)
    simp only [List.append_assoc, List.cons_append, List.nil_append, len_snoc] at this
    refine this.trans ?_
    congr 2; omega
theorem szShardS_ok {m : Nat} (hm : 1048611 ≤ m) (rows : List (List T)) (h : ∀ r ∈ rows, WtRow esShard r) (hb : rowsBulk rows ≤ 1048576) (l : Int) (hl : ((rows.length + rowsSz rows : Nat) : Int) ≤ l) (hl2 : l ≤ 1048576) (k : T → An) : laws_szShardS m (.l rows) (.i l) k = k (.i (l - (rows.length + rowsSz rows : Nat))) := by
  obtain ⟨m, rfl⟩ : ∃ m', m = m' + 1 := ⟨m - 1, by omega⟩
  have hlen := wtRows_len (by simp) h
  simp only [laws_szShardS, T.rows_l, T.int_i]
  rw [show IntKind.i64.wrap (l - (rows.length : Int)) = l - (rows.length : Int) from wrap_i64 (by omega) (by omega), dec_f (by omega)]
  refine (szShardS_loop m (by omega) rows [] (l - rows.length) h hb (by omega) (by omega) (by simp; omega) m (by omega) _ _).trans ?_
  congr 2; omega
theorem eqShard_ok {m : Nat} (hm : 1048610 ≤ m) (a0 : Int) (a1 : List (List T)) (a2 : Int) (a3 : List (List T)) (a4 : List (List T)) (h1 : ∀ r ∈ a1, WtRow esRec r) (b1 : rowsBulk a1 ≤ 1048576) (h3 : ∀ r ∈ a3, WtRow esPair r) (b3 : rowsBulk a3 ≤ 1048576) (h4 : ∀ r ∈ a4, WtRow esRec r) (b4 : rowsBulk a4 ≤ 1048576) (k : T → An) : laws_eqShard m (.i a0) (.l a1) (.i a2) (.l a3) (.l a4) (.i a0) (.l a1) (.i a2) (.l a3) (.l a4) k = k (.b true) := by
  obtain ⟨m, rfl⟩ : ∃ m', m = m' + 1 := ⟨m - 1, by omega⟩
  simp only [laws_eqShard, T.rows_l, T.int_i, T.str_s, T.bool_b, bne_self_eq_false, beq_toList_self, beq_self_eq_true, Bool.not_true, cond_false, eqRecS_ok (m := m) (by omega) a1 h1 b1, eqPairS_ok (m := m) (by omega) a3 h3 b3, eqRecS_ok (m := m) (by omega) a4 h4 b4]
theorem eqShardS_loop (m : Nat) (hm : 1048610 ≤ m) : ∀ (post pre : List (List T)), (∀ r ∈ post, WtRow esShard r) → rowsBulk post ≤ 1048576 → pre.length + post.length ≤ 1048576 →
    ∀ n, post.length < n → ∀ k0 k1, laws_eqShardS_L0_0 m n (.l (pre ++ post)) (.l (pre ++ post)) (.i pre.length) k0 k1 = k1
  | [], pre, h, hb, hs, n, hn, k0, k1 => by
    obtain ⟨n, rfl⟩ : ∃ m', n = m' + 1 := ⟨n - 1, by omega⟩
    simp only [laws_eqShardS_L0_0, T.int_i, T.rows_l]
    rw [dec_f (by simp)]
  | x :: post, pre, h, hb, hs, n, hn, k0, k1 => by
    obtain ⟨n, rfl⟩ : ∃ m', n = m' + 1 := ⟨n - 1, by omega⟩
    simp only [List.length_cons] at hs hn
    have ih := eqShardS_loop m hm post (pre ++ [x]) (fun r hr => h r (by simp [hr])) (by simp only [rowsBulk] at hb; omega) (by simp; omega) n (by omega) k0 k1
    have hx := h x (by simp)
    simp only [esShard, WtRow, WtT] at hx
    obtain ⟨_, _, rfl, ⟨a0, rfl, -⟩, _, _, rfl, ⟨a1, rfl, h1⟩, _, _, rfl, ⟨a2, rfl, -⟩, _, _, rfl, ⟨a3, rfl, h3⟩, _, _, rfl, ⟨a4, rfl, h4⟩, rfl⟩ := hx
    simp only [rowsBulk, rowBulk, tbulk] at hb
    simp only [laws_eqShardS_L0_0, T.int_i, T.rows_l, ix_row, ix_nx pre (by omega), List.getD_cons_zero, List.getD_cons_succ]
    rw [dec_t (by simp; omega), dec_t (by simp; omega), dec_t (by simp; omega)]
    rw [eqShard_ok (by omega) a0 a1 a2 a3 a4 h1 (by omega) h3 (by omega) h4 (by omega)]
    simpa using ih
theorem eqShardS_ok {m : Nat} (hm : 1048611 ≤ m) (rows : List (List T)) (h : ∀ r ∈ rows, WtRow esShard r) (hb : rowsBulk rows ≤ 1048576) (k : T → An) : laws_eqShardS m (.l rows) (.l rows) k = k (.b true) := by
  obtain ⟨m, rfl⟩ : ∃ m', m = m' + 1 := ⟨m - 1, by omega⟩
  have hlen := wtRows_len (by simp) h
  simp only [laws_eqShardS, T.rows_l, T.int_i, bne_self_eq_false, cond_false]
  exact eqShardS_loop m (by omega) rows [] h hb (by simp; omega) m (by omega) _ _
abbrev esWord : List LT := [.sc (.int .i64), .sc (.int .i64), .sc (.int .i64), .sl esOp, .sc .bool]
theorem toWord_ok {m : Nat} (hm : 1048606 ≤ m) (a0 : Int) (a1 : Int) (a2 : Int) (a3 : List (List T)) (a4 : Bool) (h3 : ∀ r ∈ a3, WtRow esOp r) (b3 : rowsBulk a3 ≤ 1048576) (k : T → T → T → T → T → An) : laws_toWord m (.i a0) (.i a1) (.i a2) (.l a3) (.b a4) k = k (.i a0) (.i a1) (.i a2) (.l a3) (.b a4) := by
  obtain ⟨m, rfl⟩ : ∃ m', m = m' + 1 := ⟨m - 1, by omega⟩
  simp only [laws_toWord, T.rows_l]
  rw [toOpS_ok (by omega) a3 h3 b3]
  try simp only [T.rows_l]
theorem toWordS_loop (m : Nat) (hm : 1048606 ≤ m) : ∀ (post pre z : List (List T)), (∀ r ∈ post, WtRow esWord r) → rowsBulk post ≤ 1048576 → z.length = post.length → (∀ r ∈ z, r.length = 5) → pre.length + post.length ≤ 1048576 →
    ∀ n, post.length < n → ∀ k0, laws_toWordS_L0_0 m n (.l (pre ++ post)) (.i pre.length) (.l (pre ++ z)) k0 = k0 (.l (pre ++ post))
  | [], pre, z, h, hb, hz, hz2, hs, n, hn, k0 => by
    obtain ⟨n, rfl⟩ : ∃ m', n = m' + 1 := ⟨n - 1, by omega⟩
    obtain rfl : z = [] := List.eq_nil_of_length_eq_zero hz
    simp only [laws_toWordS_L0_0, T.int_i, T.rows_l]
    rw [dec_f (by simp)]
  | x :: post, pre, z, h, hb, hz, hz2, hs, n, hn, k0 => by
    obtain ⟨n, rfl⟩ : ∃ m', n = m' + 1 := ⟨n - 1, by omega⟩
    simp only [List.length_cons] at hs hn hz
    match z, hz, hz2 with
    | r :: z, hz, hz2 =>
    simp only [List.length_cons] at hz
    match r, hz2 r (by simp) with
    | [c0, c1, c2, c3, c4], _ =>
    have ih := toWordS_loop m hm post (pre ++ [x]) z (fun r hr => h r (by simp [hr])) (by simp only [rowsBulk] at hb; omega) (by omega) (fun r hr => hz2 r (by simp [hr])) (by simp; omega) n (by omega) k0
    have hx := h x (by simp)
    simp only [esWord, WtRow, WtT] at hx
    obtain ⟨_, _, rfl, ⟨a0, rfl, -⟩, _, _, rfl, ⟨a1, rfl, -⟩, _, _, rfl, ⟨a2, rfl, -⟩, _, _, rfl, ⟨a3, rfl, h3⟩, _, _, rfl, ⟨a4, rfl⟩, rfl⟩ := hx
    simp only [rowsBulk, rowBulk, tbulk] at hb
    simp only [laws_toWordS_L0_0, T.int_i, T.rows_l, ix_row, ix_nx pre (by omega), set_row, List.getD_cons_zero, List.getD_cons_succ, List.set_cons_zero, List.set_cons_succ]
    rw [dec_t (by simp; omega), dec_t (by simp; omega)]
    rw [toWord_ok (by omega) a0 a1 a2 a3 a4 h3 (by omega), dec_t (by simp; omega), dec_t (by simp)]
    simpa using ih
theorem toWordS_ok {m : Nat} (hm : 1048607 ≤ m) (rows : List (List T)) (h : ∀ r ∈ rows, WtRow esWord r) (hb : rowsBulk rows ≤ 1048576) (k : T → An) : laws_toWordS m (.l rows) k = k (.l rows) := by
  obtain ⟨m, rfl⟩ : ∃ m', m = m' + 1 := ⟨m - 1, by omega⟩
  have hl := wtRows_len (by simp) h
  simp only [laws_toWordS, T.rows_l, T.int_i]
  rw [dec_t (by omega), dec_t (by unfold maxCells; omega)]
  exact toWordS_loop m (by omega) rows [] (List.replicate _ _) h hb (by simp) (fun r hr => by rw [List.eq_of_mem_replicate hr]; rfl) (by simp; omega) m (by omega) _
theorem szWord_ok {m : Nat} (hm : 1048606 ≤ m) (a0 : Int) (a1 : Int) (a2 : Int) (a3 : List (List T)) (a4 : Bool) (h3 : ∀ r ∈ a3, WtRow esOp r) (b3 : rowsBulk a3 ≤ 1048576) (l : Int) (hl : (rowSz [.i a0, .i a1, .i a2, .l a3, .b a4] : Int) ≤ l) (hl2 : l ≤ 1048576) (k : T → An) : laws_szWord m (.i a0) (.i a1) (.i a2) (.l a3) (.b a4) (.i l) k = k (.i (l - (rowSz [.i a0, .i a1, .i a2, .l a3, .b a4] : Nat))) := by
  obtain ⟨m, rfl⟩ : ∃ m', m = m' + 1 := ⟨m - 1, by omega⟩
  simp only [rowSz, tsz] at hl ⊢
  simp only [laws_szWord, T.rows_l, T.int_i, T.str_s]
  rw [szOpS_ok (by omega) a3 h3 b3 l (by omega) (by omega), T.int_i, dec_f (by omega)]
  congr 2; omega
theorem szWordS_loop (m : Nat) (hm : 1048606 ≤ m) : ∀ (post pre : List (List T)) (l : Int), (∀ r ∈ post, WtRow esWord r) → rowsBulk post ≤ 1048576 → (rowsSz post : Int) ≤ l → l ≤ 1048576 → pre.length + post.length ≤ 1048576 →
    ∀ n, post.length < n → ∀ k0 k1, laws_szWordS_L0_0 m n (.l (pre ++ post)) (.i l) (.i pre.length) k0 k1 = k1 (.i (l - rowsSz post))
  | [], pre, l, h, hb, hl, hl2, hs, n, hn, k0, k1 => by
    obtain ⟨n, rfl⟩ : ∃ m', n = m' + 1 := ⟨n - 1, by omega⟩
    simp only [laws_szWordS_L0_0, T.int_i, T.rows_l]
    rw [dec_f (by simp)]
    simp [rowsSz]
  | x :: post, pre, l, h, hb, hl, hl2, hs, n, hn, k0, k1 => by
    obtain ⟨n, rfl⟩ : ∃ m', n = m' + 1 := ⟨n - 1, by omega⟩
    simp only [List.length_cons] at hs hn
    simp only [rowsSz] at hl ⊢
    have ih := fun l hl hl2 => szWordS_loop m hm post (pre ++ [x]) l (fun r hr => h r (by simp [hr])) (by simp only [rowsBulk] at hb; omega) hl hl2 (by simp; omega) n (by omega) k0 k1
    have hx := h x (by simp)
    simp only [esWord, WtRow, WtT] at hx
    obtain ⟨_, _, rfl, ⟨a0, rfl, -⟩, _, _, rfl, ⟨a1, rfl, -⟩, _, _, rfl, ⟨a2, rfl, -⟩, _, _, rfl, ⟨a3, rfl, h3⟩, _, _, rfl, ⟨a4, rfl⟩, rfl⟩ := hx
    simp only [rowsBulk, rowBulk, tbulk] at hb
    simp only [laws_szWordS_L0_0, T.int_i, T.rows_l, ix_row, ix_nx pre (by omega), List.getD_cons_zero, List.getD_cons_succ]
    rw [dec_t (by simp; omega), dec_t (by simp; omega)]
    rw [szWord_ok (by omega) a0 a1 a2 a3 a4 h3 (by omega) l (by omega) hl2, T.int_i, dec_f (by omega)]
    have := ih (l - (rowSz [.i a0, .i a1, .i a2, .l a3, .b a4] : Nat)) (by omega) (by omega)
    simp only [List.append_assoc, List.cons_append, List.nil_append, len_snoc] at this
    refine this.trans ?_
    congr 2; omega
theorem szWordS_ok {m : Nat} (hm : 1048607 ≤ m) (rows : List (List T)) (h : ∀ r ∈ rows, WtRow esWord r) (hb : rowsBulk rows ≤ 1048576) (l : Int) (hl : ((rows.length + rowsSz rows : Nat) : Int) ≤ l) (hl2 : l ≤ 1048576) (k : T → An) : laws_szWordS m (.l rows) (.i l) k = k (.i (l - (rows.length + rowsSz rows : Nat))) := by
  obtain ⟨m, rfl⟩ : ∃ m', m = m' + 1 := ⟨m - 1, by omega⟩
  have hlen := wtRows_len (by simp) h
  simp only [laws_szWordS, T.rows_l, T.int_i]
  rw [show IntKind.i64.wrap (l - (rows.length : Int)) = l - (rows.length : Int) from wrap_i64 (by omega) (by omega), dec_f (by omega)]
  refine (szWordS_loop m (by omega) rows [] (l - rows.length) h hb (by omega) (by omega) (by simp; omega) m (by omega) _ _).trans ?_
  congr 2; omega
theorem eqWord_ok {m : Nat} (hm : 1048606 ≤ m) (a0 : Int) (a1 : Int) (a2 : Int) (a3 : List (List T)) (a4 : Bool) (h3 : ∀ r ∈ a3, WtRow esOp r) (b3 : rowsBulk a3 ≤ 1048576) (k : T → An) : laws_eqWord m (.i a0) (.i a1) (.i a2) (.l a3) (.b a4) (.i a0) (.i a1) (.i a2) (.l a3) (.b a4) k = k (.b true) := by
  obtain ⟨m, rfl⟩ : ∃ m', m = m' + 1 := ⟨m - 1, by omega⟩
  simp only [laws_eqWord, T.rows_l, T.int_i, T.str_s, T.bool_b, bne_self_eq_false, beq_toList_self, beq_self_eq_true, Bool.not_true, cond_false, eqOpS_ok (m := m) (by omega) a3 h3 b3]
theorem eqWordS_loop (m : Nat) (hm : 1048606 ≤ m) : ∀ (post pre : List (List T)), (∀ r ∈ post, WtRow esWord r) → rowsBulk post ≤ 1048576 → pre.length + post.length ≤ 1048576 →
    ∀ n, post.length < n → ∀ k0 k1, laws_eqWordS_L0_0 m n (.l (pre ++ post)) (.l (pre ++ post)) (.i pre.length) k0 k1 = k1
  | [], pre, h, hb, hs, n, hn, k0, k1 => by
    obtain ⟨n, rfl⟩ : ∃ m', n = m' + 1 := ⟨n - 1, by omega⟩
    simp only [laws_eqWordS_L0_0, T.int_i, T.rows_l]
    rw [dec_f (by simp)]
  | x :: post, pre, h, hb, hs, n, hn, k0, k1 => by
    obtain ⟨n, rfl⟩ : ∃ m', n = m' + 1 := ⟨n - 1, by omega⟩
    simp only [List.length_cons] at hs hn
    have ih := eqWordS_loop m hm post (pre ++ [x]) (fun r hr => h r (by simp [hr])) (by simp only [rowsBulk] at hb; omega) (by simp; omega) n (by omega) k0 k1
    have hx := h x (by simp)
    simp only [esWord, WtRow, WtT] at hx
    obtain ⟨_, _, rfl, ⟨a0, rfl, -⟩, _, _, rfl, ⟨a1, rfl, -⟩, _, _, rfl, ⟨a2, rfl, -⟩, _, _, rfl, ⟨a3, rfl, h3⟩, _, _, rfl, ⟨a4, rfl⟩, rfl⟩ := hx
    simp only [rowsBulk, rowBulk, tbulk] at hb
    simp only [laws_eqWordS_L0_0, T.int_i, T.rows_l, ix_row, ix_nx pre (by omega), List.getD_cons_zero, List.getD_cons_succ]
    rw [dec_t (by simp; omega), dec_t (by simp; omega), dec_t (by simp; omega)]
    rw [eqWord_ok (by omega) a0 a1 a2 a3 a4 h3 (by omega)]
    simpa using ih
theorem eqWordS_ok {m : Nat} (hm : 1048607 ≤ m) (rows : List (List T)) (h : ∀ r ∈ rows, WtRow esWord r) (hb : rowsBulk rows ≤ 1048576) (k : T → An) : laws_eqWordS m (.l rows) (.l rows) k = k (.b true) := by
  obtain ⟨m, rfl⟩ : ∃ m', m = m' + 1 := ⟨m - 1, by omega⟩
  have hlen := wtRows_len (by simp) h
  simp only [laws_eqWordS, T.rows_l, T.int_i, bne_self_eq_false, cond_false]
  exact eqWordS_loop m (by omega) rows [] h hb (by simp; omega) m (by omega) _ _
abbrev esOrder : List LT := [.sc (.int .i64), .sl esOp]
theorem toOrder_ok {m : Nat} (hm : 1048606 ≤ m) (a0 : Int) (a1 : List (List T)) (h1 : ∀ r ∈ a1, WtRow esOp r) (b1 : rowsBulk a1 ≤ 1048576) (k : T → T → An) : laws_toOrder m (.i a0) (.l a1) k = k (.i a0) (.l a1) := by
  obtain ⟨m, rfl⟩ : ∃ m', m = m' + 1 := ⟨m - 1, by omega⟩
  simp only [laws_toOrder, T.rows_l]
  rw [toOpS_ok (by omega) a1 h1 b1]
  try simp only [T.rows_l]
theorem toOrderS_loop (m : Nat) (hm : 1048606 ≤ m) : ∀ (post pre z : List (List T)), (∀ r ∈ post, WtRow esOrder r) → rowsBulk post ≤ 1048576 → z.length = post.length → (∀ r ∈ z, r.length = 2) → pre.length + post.length ≤ 1048576 →
    ∀ n, post.length < n → ∀ k0, laws_toOrderS_L0_0 m n (.l (pre ++ post)) (.i pre.length) (.l (pre ++ z)) k0 = k0 (.l (pre ++ post))
  | [], pre, z, h, hb, hz, hz2, hs, n, hn, k0 => by
    obtain ⟨n, rfl⟩ : ∃ m', n = m' + 1 := ⟨n - 1, by omega⟩
    obtain rfl : z = [] := List.eq_nil_of_length_eq_zero hz
    simp only [laws_toOrderS_L0_0, T.int_i, T.rows_l]
    rw [dec_f (by simp)]
  | x :: post, pre, z, h, hb, hz, hz2, hs, n, hn, k0 => by
    obtain ⟨n, rfl⟩ : ∃ m', n = m' + 1 := ⟨n - 1, by omega⟩
    simp only [List.length_cons] at hs hn hz
    match z, hz, hz2 with
    | r :: z, hz, hz2 =>
    simp only [List.length_cons] at hz
    match r, hz2 r (by simp) with
    | [c0, c1], _ =>
    have ih := toOrderS_loop m hm post (pre ++ [x]) z (fun r hr => h r (by simp [hr])) (by simp only [rowsBulk] at hb; omega) (by omega) (fun r hr => hz2 r (by simp [hr])) (by simp; omega) n (by omega) k0
    have hx := h x (by simp)
    simp only [esOrder, WtRow, WtT] at hx
    obtain ⟨_, _, rfl, ⟨a0, rfl, -⟩, _, _, rfl, ⟨a1, rfl, h1⟩, rfl⟩ := hx
    simp only [rowsBulk, rowBulk, tbulk] at hb
    simp only [laws_toOrderS_L0_0, T.int_i, T.rows_l, ix_row, ix_nx pre (by omega), set_row, List.getD_cons_zero, List.getD_cons_succ, List.set_cons_zero, List.set_cons_succ]
    rw [dec_t (by simp; omega), dec_t (by simp; omega)]
    rw [toOrder_ok (by omega) a0 a1 h1 (by omega), dec_t (by simp; omega), dec_t (by simp)]
    simpa using ih
theorem toOrderS_ok {m : Nat} (hm : 1048607 ≤ m) (rows : List (List T)) (h : ∀ r ∈ rows, WtRow esOrder r) (hb : rowsBulk rows ≤ 1048576) (k : T → An) : laws_toOrderS m (.l rows) k = k (.l rows) := by
  obtain ⟨m, rfl⟩ : ∃ m', m = m' + 1 := ⟨m - 1, by omega⟩
  have hl := wtRows_len (by simp) h
  simp only [laws_toOrderS, T.rows_l, T.int_i]
  rw [dec_t (by omega), dec_t (by unfold maxCells; omega)]
  exact toOrderS_loop m (by omega) rows [] (List.replicate _ _) h hb (by simp) (fun r hr => by rw [List.eq_of_mem_replicate hr]; rfl) (by simp; omega) m (by omega) _
theorem szOrder_ok {m : Nat} (hm : 1048606 ≤ m) (a0 : Int) (a1 : List (List T)) (h1 : ∀ r ∈ a1, WtRow esOp r) (b1 : rowsBulk a1 ≤ 1048576) (l : Int) (hl : (rowSz [.i a0, .l a1] : Int) ≤ l) (hl2 : l ≤ 1048576) (k : T → An) : laws_szOrder m (.i a0) (.l a1) (.i l) k = k (.i (l - (rowSz [.i a0, .l a1] : Nat))) := by
  obtain ⟨m, rfl⟩ : ∃ m', m = m' + 1 := ⟨m - 1, by omega⟩
  simp only [rowSz, tsz] at hl ⊢
  simp only [laws_szOrder, T.rows_l, T.int_i, T.str_s]
  rw [szOpS_ok (by omega) a1 h1 b1 l (by omega) (by omega), T.int_i, dec_f (by omega)]
  congr 2; omega
theorem szOrderS_loop (m : Nat) (hm : 1048606 ≤ m) : ∀ (post pre : List (List T)) (l : Int), (∀ r ∈ post, WtRow esOrder r) → rowsBulk post ≤ 1048576 → (rowsSz post : Int) ≤ l → l ≤ 1048576 → pre.length + post.length ≤ 1048576 →
    ∀ n, post.length < n → ∀ k0 k1, laws_szOrderS_L0_0 m n (.l (pre ++ post)) (.i l) (.i pre.length) k0 k1 = k1 (.i (l - rowsSz post))
  | [], pre, l, h, hb, hl, hl2, hs, n, hn, k0, k1 => by
    obtain ⟨n, rfl⟩ : ∃ m', n = m' + 1 := ⟨n - 1, by omega⟩
    simp only [laws_szOrderS_L0_0, T.int_i, T.rows_l]
    rw [dec_f (by simp)]
    simp [rowsSz]
  | x :: post, pre, l, h, hb, hl, hl2, hs, n, hn, k0, k1 => by
    obtain ⟨n, rfl⟩ : ∃ m', n = m' + 1 := ⟨n - 1, by omega⟩
    simp only [List.length_cons] at hs hn
    simp only [rowsSz] at hl ⊢
    have ih := fun l hl hl2 => szOrderS_loop m hm post (pre ++ [x]) l (fun r hr => h r (by simp [hr])) (by simp only [rowsBulk] at hb; omega) hl hl2 (by simp; omega) n (by omega) k0 k1
    have hx := h x (by simp)
    simp only [esOrder, WtRow, WtT] at hx
    obtain ⟨_, _, rfl, ⟨a0, rfl, -⟩, _, _, rfl, ⟨a1, rfl, h1⟩, rfl⟩ := hx
    simp only [rowsBulk, rowBulk, tbulk] at hb
    simp only [laws_szOrderS_L0_0, T.int_i, T.rows_l, ix_row, ix_nx pre (by omega), List.getD_cons_zero, List.getD_cons_succ]
    rw [dec_t (by simp; omega), dec_t (by simp; omega)]
    rw [szOrder_ok (by omega) a0 a1 h1 (by omega) l (by omega) hl2, T.int_i, dec_f (by omega)]
    have := ih (l - (rowSz [.i a0, .l a1] : Nat)) (by omega) (by omega)
    simp only [List.append_assoc, List.cons_append, List.nil_append, len_snoc] at this
    refine this.trans ?_
    congr 2; omega
theorem szOrderS_ok {m : Nat} (hm : 1048607 ≤ m) (rows : List (List T)) (h : ∀ r ∈ rows, WtRow esOrder r) (hb : rowsBulk rows ≤ 1048576) (l : Int) (hl : ((rows.length + rowsSz rows : Nat) : Int) ≤ l) (hl2 : l ≤ 1048576) (k : T → An) : laws_szOrderS m (.l rows) (.i l) k = k (.i (l - (rows.length + rowsSz rows : Nat))) := by
  obtain ⟨m, rfl⟩ : ∃ m', m = m' + 1 := ⟨m - 1, by omega⟩
  have hlen := wtRows_len (by simp) h
  simp only [laws_szOrderS, T.rows_l, T.int_i]
  rw [show IntKind.i64.wrap (l - (rows.length : Int)) = l - (rows.length : Int) from wrap_i64 (by omega) (by omega), dec_f (by omega)]
  refine (szOrderS_loop m (by omega) rows [] (l - rows.length) h hb (by omega) (by omega) (by simp; omega) m (by omega) _ _).trans ?_
  congr 2; omega
theorem eqOrder_ok {m : Nat} (hm : 1048606 ≤ m) (a0 : Int) (a1 : List (List T)) (h1 : ∀ r ∈ a1, WtRow esOp r) (b1 : rowsBulk a1 ≤ 1048576) (k : T → An) : laws_eqOrder m (.i a0) (.l a1) (.i a0) (.l a1) k = k (.b true) := by
  obtain ⟨m, rfl⟩ : ∃ m', m = m' + 1 := ⟨m - 1, by omega⟩
  simp only [laws_eqOrder, T.rows_l, T.int_i, T.str_s, T.bool_b, bne_self_eq_false, beq_toList_self, beq_self_eq_true, Bool.not_true, cond_false, eqOpS_ok (m := m) (by omega) a1 h1 b1]
theorem eqOrderS_loop (m : Nat) (hm : 1048606 ≤ m) : ∀ (post pre : List (List T)), (∀ r ∈ post, WtRow esOrder r) → rowsBulk post ≤ 1048576 → pre.length + post.length ≤ 1048576 →
    ∀ n, post.length < n → ∀ k0 k1, laws_eqOrderS_L0_0 m n (.l (pre ++ post)) (.l (pre ++ post)) (.i pre.length) k0 k1 = k1
  | [], pre, h, hb, hs, n, hn, k0, k1 => by
    obtain ⟨n, rfl⟩ : ∃ m', n = m' + 1 := ⟨n - 1, by omega⟩
    simp only [laws_eqOrderS_L0_0, T.int_i, T.rows_l]
    rw [dec_f (by simp)]
  | x :: post, pre, h, hb, hs, n, hn, k0, k1 => by
    obtain ⟨n, rfl⟩ : ∃ m', n = m' + 1 := ⟨n - 1, by omega⟩
    simp only [List.length_cons] at hs hn
    have ih := eqOrderS_loop m hm post (pre ++ [x]) (fun r hr => h r (by simp [hr])) (by simp only [rowsBulk] at hb; omega) (by simp; omega) n (by omega) k0 k1
    have hx := h x (by simp)
    simp only [esOrder, WtRow, WtT] at hx
    obtain ⟨_, _, rfl, ⟨a0, rfl, -⟩, _, _, rfl, ⟨a1, rfl, h1⟩, rfl⟩ := hx
    simp only [rowsBulk, rowBulk, tbulk] at hb
    simp only [laws_eqOrderS_L0_0, T.int_i, T.rows_l, ix_row, ix_nx pre (by omega), List.getD_cons_zero, List.getD_cons_succ]
    rw [dec_t (by simp; omega), dec_t (by simp; omega), dec_t (by simp; omega)]
    rw [eqOrder_ok (by omega) a0 a1 h1 (by omega)]
    simpa using ih
theorem eqOrderS_ok {m : Nat} (hm : 1048607 ≤ m) (rows : List (List T)) (h : ∀ r ∈ rows, WtRow esOrder r) (hb : rowsBulk rows ≤ 1048576) (k : T → An) : laws_eqOrderS m (.l rows) (.l rows) k = k (.b true) := by
  obtain ⟨m, rfl⟩ : ∃ m', m = m' + 1 := ⟨m - 1, by omega⟩
  have hlen := wtRows_len (by simp) h
  simp only [laws_eqOrderS, T.rows_l, T.int_i, bne_self_eq_false, cond_false]
  exact eqOrderS_loop m (by omega) rows [] h hb (by simp; omega) m (by omega) _ _
abbrev esWorld : List LT := [.sc (.int .i64), .sc (.int .i64), .sc (.int .i64), .sl esJob, .sl esChoice, .sc (.int .i64), .sl esShard, .sl esWord, .sl esWord, .sl esOrder]
theorem toWorld_ok {m : Nat} (hm : 1048614 ≤ m) (a0 : Int) (a1 : Int) (a2 : Int) (a3 : List (List T)) (a4 : List (List T)) (a5 : Int) (a6 : List (List T)) (a7 : List (List T)) (a8 : List (List T)) (a9 : List (List T)) (h3 : ∀ r ∈ a3, WtRow esJob r) (b3 : rowsBulk a3 ≤ 1048576) (h4 : ∀ r ∈ a4, WtRow esChoice r) (b4 : rowsBulk a4 ≤ 1048576) (h6 : ∀ r ∈ a6, WtRow esShard r) (b6 : rowsBulk a6 ≤ 1048576) (h7 : ∀ r ∈ a7, WtRow esWord r) (b7 : rowsBulk a7 ≤ 1048576) (h8 : ∀ r ∈ a8, WtRow esWord r) (b8 : rowsBulk a8 ≤ 1048576) (h9 : ∀ r ∈ a9, WtRow esOrder r) (b9 : rowsBulk a9 ≤ 1048576) (k : T → T → T → T → T → T → T → T → T → T → An) : laws_toWorld m (.i a0) (.i a1) (.i a2) (.l a3) (.l a4) (.i a5) (.l a6) (.l a7) (.l a8) (.l a9) k = k (.i a0) (.i a1) (.i a2) (.l a3) (.l a4) (.i a5) (.l a6) (.l a7) (.l a8) (.l a9) := by
  obtain ⟨m, rfl⟩ : ∃ m', m = m' + 1 := ⟨m - 1, by omega⟩
  simp only [laws_toWorld, T.rows_l]
  rw [toCoord_ok (by omega) a0 a1 a2 a3 a4 a5 h3 b3 h4 b4]
  simp only [T.rows_l]
  rw [toShardS_ok (by omega) a6 h6 b6]
  try simp only [T.rows_l]
  rw [toWordS_ok (by omega) a7 h7 b7]
  try simp only [T.rows_l]
  rw [toWordS_ok (by omega) a8 h8 b8]
  try simp only [T.rows_l]
  rw [toOrderS_ok (by omega) a9 h9 b9]
  try simp only [T.rows_l]
theorem szWorld_ok {m : Nat} (hm : 1048614 ≤ m) (a0 : Int) (a1 : Int) (a2 : Int) (a3 : List (List T)) (a4 : List (List T)) (a5 : Int) (a6 : List (List T)) (a7 : List (List T)) (a8 : List (List T)) (a9 : List (List T)) (h3 : ∀ r ∈ a3, WtRow esJob r) (b3 : rowsBulk a3 ≤ 1048576) (h4 : ∀ r ∈ a4, WtRow esChoice r) (b4 : rowsBulk a4 ≤ 1048576) (h6 : ∀ r ∈ a6, WtRow esShard r) (b6 : rowsBulk a6 ≤ 1048576) (h7 : ∀ r ∈ a7, WtRow esWord r) (b7 : rowsBulk a7 ≤ 1048576) (h8 : ∀ r ∈ a8, WtRow esWord r) (b8 : rowsBulk a8 ≤ 1048576) (h9 : ∀ r ∈ a9, WtRow esOrder r) (b9 : rowsBulk a9 ≤ 1048576) (l : Int) (hl : (rowSz [.i a0, .i a1, .i a2, .l a3, .l a4, .i a5, .l a6, .l a7, .l a8, .l a9] : Int) ≤ l) (hl2 : l ≤ 1048576) (k : T → An) : laws_szWorld m (.i a0) (.i a1) (.i a2) (.l a3) (.l a4) (.i a5) (.l a6) (.l a7) (.l a8) (.l a9) (.i l) k = k (.i (l - (rowSz [.i a0, .i a1, .i a2, .l a3, .l a4, .i a5, .l a6, .l a7, .l a8, .l a9] : Nat))) := by
  obtain ⟨m, rfl⟩ : ∃ m', m = m' + 1 := ⟨m - 1, by omega⟩
  simp only [rowSz, tsz] at hl ⊢
  simp only [laws_szWorld, T.rows_l, T.int_i, T.str_s]
  have ec : rowSz [.i a0, .i a1, .i a2, .l a3, .l a4, .i a5] = a3.length + rowsSz a3 + (a4.length + rowsSz a4) := by simp only [rowSz, tsz]; omega
  rw [szCoord_ok (by omega) a0 a1 a2 a3 a4 a5 h3 b3 h4 b4 l (by omega) (by omega), T.int_i, dec_f (by omega)]
  rw [szShardS_ok (by omega) a6 h6 b6 (l - (rowSz [.i a0, .i a1, .i a2, .l a3, .l a4, .i a5] : Nat)) (by omega) (by omega), T.int_i, dec_f (by omega)]
  rw [szWordS_ok (by omega) a7 h7 b7 ((l - (rowSz [.i a0, .i a1, .i a2, .l a3, .l a4, .i a5] : Nat)) - ((a6.length + rowsSz a6 : Nat) : Int)) (by omega) (by omega), T.int_i, dec_f (by omega)]
  rw [szWordS_ok (by omega) a8 h8 b8 (((l - (rowSz [.i a0, .i a1, .i a2, .l a3, .l a4, .i a5] : Nat)) - ((a6.length + rowsSz a6 : Nat) : Int)) - ((a7.length + rowsSz a7 : Nat) : Int)) (by omega) (by omega), T.int_i, dec_f (by omega)]
  rw [szOrderS_ok (by omega) a9 h9 b9 ((((l - (rowSz [.i a0, .i a1, .i a2, .l a3, .l a4, .i a5] : Nat)) - ((a6.length + rowsSz a6 : Nat) : Int)) - ((a7.length + rowsSz a7 : Nat) : Int)) - ((a8.length + rowsSz a8 : Nat) : Int)) (by omega) (by omega), T.int_i, dec_f (by omega)]
  congr 2; omega
theorem eqWorld_ok {m : Nat} (hm : 1048614 ≤ m) (a0 : Int) (a1 : Int) (a2 : Int) (a3 : List (List T)) (a4 : List (List T)) (a5 : Int) (a6 : List (List T)) (a7 : List (List T)) (a8 : List (List T)) (a9 : List (List T)) (h3 : ∀ r ∈ a3, WtRow esJob r) (b3 : rowsBulk a3 ≤ 1048576) (h4 : ∀ r ∈ a4, WtRow esChoice r) (b4 : rowsBulk a4 ≤ 1048576) (h6 : ∀ r ∈ a6, WtRow esShard r) (b6 : rowsBulk a6 ≤ 1048576) (h7 : ∀ r ∈ a7, WtRow esWord r) (b7 : rowsBulk a7 ≤ 1048576) (h8 : ∀ r ∈ a8, WtRow esWord r) (b8 : rowsBulk a8 ≤ 1048576) (h9 : ∀ r ∈ a9, WtRow esOrder r) (b9 : rowsBulk a9 ≤ 1048576) (k : T → An) : laws_eqWorld m (.i a0) (.i a1) (.i a2) (.l a3) (.l a4) (.i a5) (.l a6) (.l a7) (.l a8) (.l a9) (.i a0) (.i a1) (.i a2) (.l a3) (.l a4) (.i a5) (.l a6) (.l a7) (.l a8) (.l a9) k = k (.b true) := by
  obtain ⟨m, rfl⟩ : ∃ m', m = m' + 1 := ⟨m - 1, by omega⟩
  simp only [laws_eqWorld, T.rows_l, T.int_i, T.str_s, T.bool_b, bne_self_eq_false, beq_toList_self, beq_self_eq_true, Bool.not_true, cond_false, eqCoord_ok (m := m) (by omega) a0 a1 a2 a3 a4 a5 h3 b3 h4 b4, eqShardS_ok (m := m) (by omega) a6 h6 b6, eqWordS_ok (m := m) (by omega) a7 h7 b7, eqWordS_ok (m := m) (by omega) a8 h8 b8, eqOrderS_ok (m := m) (by omega) a9 h9 b9]
end Go.Proofs.Ytajemijnfpakgaa

namespace Go.Proofs.Ytajemijnfpakgaa
open Go Go.E Go.Proofs
def heldN : List (List T) → Nat
  | [] => 0
  | r :: rs => (r.getD 4 dflt).rows.length + heldN rs
def askN : List (List T) → Nat
  | [] => 0
  | r :: rs => (if (r.getD 2 dflt).int = 1 then 1 else 0) + askN rs
theorem drop_getD (r : List T) (n : Nat) : (r.drop n).getD 0 dflt = r.getD n dflt := by simp [List.getD]
theorem heldN_le : ∀ {rows : List (List T)}, (∀ r ∈ rows, WtRow esShard r) → heldN rows ≤ rowsBulk rows
  | [], _ => by simp [heldN]
  | x :: rows, h => by
    have ih := heldN_le (rows := rows) fun r hr => h r (by simp [hr])
    have hx := h x (by simp)
    simp only [esShard, WtRow, WtT] at hx
    obtain ⟨_, _, rfl, ⟨a0, rfl, -⟩, _, _, rfl, ⟨a1, rfl, h1⟩, _, _, rfl, ⟨a2, rfl, -⟩, _, _, rfl, ⟨a3, rfl, h3⟩, _, _, rfl, ⟨a4, rfl, h4⟩, rfl⟩ := hx
    have := wtRows_len (es := esRec) (by simp) h4
    simp only [heldN, rowsBulk, rowBulk, tbulk, List.getD_cons_zero, List.getD_cons_succ, T.rows_l]
    omega
theorem askN_le : ∀ (rows : List (List T)), askN rows ≤ rows.length
  | [] => by simp [askN]
  | x :: rows => by
    have ih := askN_le rows
    simp only [askN, List.length_cons]
    split <;> omega
theorem e0 : ((Int.toNat 0 : Nat) : Int) = 0 := rfl
theorem holding_loop (m : Nat) : ∀ (post pre : List (List T)) (acc : Nat), acc + heldN post ≤ 1099511627776 → pre.length + post.length ≤ 1048576 → ∀ n, post.length < n → ∀ k0,
    impl_World_holding_L0_0 m n (.i acc) (.l (pre ++ post)) (.i (pre ++ post).length) (.i pre.length) k0 = k0 (.i (acc + heldN post : Nat))
  | [], pre, acc, h, hs, n, hn, k0 => by
    obtain ⟨n, rfl⟩ : ∃ m', n = m' + 1 := ⟨n - 1, by omega⟩
    simp only [impl_World_holding_L0_0, T.int_i, T.rows_l]
    rw [dec_f (by simp)]
    simp [heldN]
  | x :: post, pre, acc, h, hs, n, hn, k0 => by
    obtain ⟨n, rfl⟩ : ∃ m', n = m' + 1 := ⟨n - 1, by omega⟩
    simp only [List.length_cons] at hs hn
    simp only [heldN] at h ⊢
    have ih := holding_loop m post (pre ++ [x]) (acc + (x.getD 4 dflt).rows.length) (by omega) (by simp; omega) n (by omega) k0
    simp only [impl_World_holding_L0_0, T.int_i, T.rows_l, ix_row, ix_nx pre (by omega)]
    rw [dec_t (by simp; omega), dec_t (by simp; omega), show IntKind.i64.wrap ((acc : Int) + ((x.getD 4 dflt).rows.length : Int)) = ((acc + (x.getD 4 dflt).rows.length : Nat) : Int) by rw [wrap_i64 (by omega) (by omega)]; omega]
    simp only [List.append_assoc, List.cons_append, List.nil_append, len_snoc] at ih
    refine ih.trans ?_
    congr 2; omega
theorem asking_loop (m : Nat) : ∀ (post pre : List (List T)) (acc : Nat), acc + post.length ≤ 1099511627776 → pre.length + post.length ≤ 1048576 → ∀ n, post.length < n → ∀ k0,
    impl_World_asking_L0_0 m n (.i acc) (.l (pre ++ post)) (.i (pre ++ post).length) (.i pre.length) k0 = k0 (.i (acc + askN post : Nat))
  | [], pre, acc, h, hs, n, hn, k0 => by
    obtain ⟨n, rfl⟩ : ∃ m', n = m' + 1 := ⟨n - 1, by omega⟩
    simp only [impl_World_asking_L0_0, T.int_i, T.rows_l]
    rw [dec_f (by simp)]
    simp [askN]
  | x :: post, pre, acc, h, hs, n, hn, k0 => by
    obtain ⟨n, rfl⟩ : ∃ m', n = m' + 1 := ⟨n - 1, by omega⟩
    simp only [List.length_cons] at h hs hn
    have ih := fun acc h => asking_loop m post (pre ++ [x]) acc h (by simp; omega) n (by omega) k0
    simp only [impl_World_asking_L0_0, T.int_i, T.rows_l, ix_row, ix_nx pre (by omega), askN]
    rw [dec_t (by simp; omega), dec_t (by simp; omega)]
    simp only [List.append_assoc, List.cons_append, List.nil_append, len_snoc] at ih
    by_cases hx : (x.getD 2 dflt).int = 1
    · rw [cond_t (by rw [hx]; rfl), show IntKind.i64.wrap ((acc : Int) + 1) = ((acc + 1 : Nat) : Int) by rw [wrap_i64 (by omega) (by omega)]; omega, ih (acc + 1) (by omega), if_pos hx]
      congr 2; omega
    · rw [cond_f (beq_eq_false_iff_ne.2 hx), ih acc (by omega), if_neg hx, Nat.zero_add]
section
variable {m : Nat} (a0 a1 a2 : Int) (a3 a4 : List (List T)) (a5 : Int) (a6 a7 a8 a9 : List (List T))
theorem holding_ok (hm : 1048580 ≤ m) (h6 : ∀ r ∈ a6, WtRow esShard r) (b6 : rowsBulk a6 ≤ 1048576) (k : T → An) :
    impl_World_holding m (.l [[.i a0, .i a1, .i a2, .l a3, .l a4, .i a5, .l a6, .l a7, .l a8, .l a9]]) k = k (.i (heldN a6 : Nat)) := by
  obtain ⟨m, rfl⟩ : ∃ m', m = m' + 1 := ⟨m - 1, by omega⟩
  have h1 := heldN_le h6
  have h2 := wtRows_len (by simp) h6
  have := holding_loop m a6 [] 0 (by omega) (by simp; omega) m (by omega) k
  rw [Nat.zero_add] at this
  exact this
theorem asking_ok (hm : 1048580 ≤ m) (h3 : a3.length ≤ 1048576) (k : T → An) :
    impl_World_asking m (.l [[.i a0, .i a1, .i a2, .l a3, .l a4, .i a5, .l a6, .l a7, .l a8, .l a9]]) k = k (.i (askN a3 : Nat)) := by
  obtain ⟨m, rfl⟩ : ∃ m', m = m' + 1 := ⟨m - 1, by omega⟩
  have := asking_loop m a3 [] 0 (by omega) (by simp; omega) m (by omega) k
  rw [Nat.zero_add] at this
  exact this
theorem implOpen_ok (hm : 1048590 ≤ m) (h3 : a3.length ≤ 1048576) (h6 : ∀ r ∈ a6, WtRow esShard r) (b6 : rowsBulk a6 ≤ 1048576) (k : T → An) :
    impl_Open m (.i a0) (.i a1) (.i a2) (.l a3) (.l a4) (.i a5) (.l a6) (.l a7) (.l a8) (.l a9) k = k (.i (heldN a6 + askN a3 : Nat)) := by
  obtain ⟨m, rfl⟩ : ∃ m', m = m' + 1 := ⟨m - 1, by omega⟩
  have h1 := heldN_le h6
  have h2 := askN_le a3
  simp only [impl_Open, T.rows_l]
  rw [holding_ok a0 a1 a2 a3 a4 a5 a6 a7 a8 a9 (by omega) h6 b6, asking_ok a0 a1 a2 a3 a4 a5 a6 a7 a8 a9 (by omega) h3]
  simp only [T.int_i]
  rw [wrap_i64 (by omega) (by omega)]
  congr 2
theorem implResting_ok (hm : 1048590 ≤ m) (h3 : a3.length ≤ 1048576) (h6 : ∀ r ∈ a6, WtRow esShard r) (b6 : rowsBulk a6 ≤ 1048576) (k : T → An) :
    impl_Resting m (.i a0) (.i a1) (.i a2) (.l a3) (.l a4) (.i a5) (.l a6) (.l a7) (.l a8) (.l a9) k = k (.b ((heldN a6 == 0) && ((askN a3 == 0) && (a5 == (a4.length : Int))))) := by
  obtain ⟨m, rfl⟩ : ∃ m', m = m' + 1 := ⟨m - 1, by omega⟩
  simp only [impl_Resting, T.rows_l]
  rw [holding_ok a0 a1 a2 a3 a4 a5 a6 a7 a8 a9 (by omega) h6 b6, asking_ok a0 a1 a2 a3 a4 a5 a6 a7 a8 a9 (by omega) h3]
  simp only [T.int_i]
  have e1 : (((heldN a6 : Nat) : Int) == 0) = (heldN a6 == 0) := by cases heldN a6 <;> rfl
  have e2 : (((askN a3 : Nat) : Int) == 0) = (askN a3 == 0) := by cases askN a3 <;> rfl
  rw [e1, e2]
  cases (heldN a6 == 0) <;> cases (askN a3 == 0) <;> rfl
end
section
variable {m : Nat} (y0 y1 y2 y3 y4 y5 y7 y8 y9 : T)
theorem specOpen_L0 : ∀ (post pre : List (List T)) (acc : Nat), acc + heldN post ≤ 1099511627776 → pre.length + post.length ≤ 1048576 → ∀ n, post.length < n → ∀ k0,
    spec_Open_L0_0 m n (.i 0) (.i acc) (.i pre.length) y0 y1 y2 y3 y4 y5 (.l (pre ++ post)) y7 y8 y9 k0 = k0 (.i 0) (.i (acc + heldN post : Nat)) y0 y1 y2 y3 y4 y5 (.l (pre ++ post)) y7 y8 y9
  | [], pre, acc, h, hs, n, hn, k0 => by
    obtain ⟨n, rfl⟩ : ∃ m', n = m' + 1 := ⟨n - 1, by omega⟩
    simp only [spec_Open_L0_0, T.int_i, T.rows_l, e0]
    rw [dec_f (by simp)]
    simp [heldN]
  | x :: post, pre, acc, h, hs, n, hn, k0 => by
    obtain ⟨n, rfl⟩ : ∃ m', n = m' + 1 := ⟨n - 1, by omega⟩
    simp only [List.length_cons] at hs hn
    simp only [heldN] at h ⊢
    have ih := specOpen_L0 post (pre ++ [x]) (acc + (x.getD 4 dflt).rows.length) (by omega) (by simp; omega) n (by omega) k0
    simp only [spec_Open_L0_0, T.int_i, T.rows_l, ix_row, ix_nx pre (by omega), e0, drop_getD]
    rw [dec_t (by simp; omega), dec_t (by simp; omega), show IntKind.i64.wrap ((acc : Int) + ((x.getD 4 dflt).rows.length : Int)) = ((acc + (x.getD 4 dflt).rows.length : Nat) : Int) by rw [wrap_i64 (by omega) (by omega)]; omega]
    simp only [List.append_assoc, List.cons_append, List.nil_append, len_snoc] at ih
    refine ih.trans ?_
    rw [Nat.add_assoc]
theorem specRest_L0 : ∀ (post pre : List (List T)), pre.length + post.length ≤ 1048576 → ∀ n, post.length < n → ∀ k0 k1,
    spec_Resting_L0_0 m n (.i 0) (.i pre.length) y0 y1 y2 y3 y4 y5 (.l (pre ++ post)) y7 y8 y9 k0 k1 = cond ((heldN post == 0)) (k1 (.i 0) y0 y1 y2 y3 y4 y5 (.l (pre ++ post)) y7 y8 y9) (k0 (.b false))
  | [], pre, hs, n, hn, k0, k1 => by
    obtain ⟨n, rfl⟩ : ∃ m', n = m' + 1 := ⟨n - 1, by omega⟩
    simp only [spec_Resting_L0_0, T.int_i, T.rows_l, e0]
    rw [dec_f (by simp)]
    simp [heldN]
  | x :: post, pre, hs, n, hn, k0, k1 => by
    obtain ⟨n, rfl⟩ : ∃ m', n = m' + 1 := ⟨n - 1, by omega⟩
    simp only [List.length_cons] at hs hn
    have ih := specRest_L0 post (pre ++ [x]) (by simp; omega) n (by omega) k0 k1
    simp only [spec_Resting_L0_0, T.int_i, T.rows_l, ix_row, ix_nx pre (by omega), e0, drop_getD, heldN]
    rw [dec_t (by simp; omega), dec_t (by simp; omega)]
    simp only [List.append_assoc, List.cons_append, List.nil_append, len_snoc] at ih
    by_cases hx : (x.getD 4 dflt).rows.length = 0
    · rw [dec_f (by omega), ih, hx, Nat.zero_add]
    · rw [dec_t (by omega), cond_f (beq_eq_false_iff_ne.2 (by omega))]
end
section
variable {m : Nat} (y0 y1 y2 y4 y5 y6 y7 y8 y9 : T)
theorem specOpen_L1 : ∀ (post pre : List (List T)) (acc : Nat), acc + post.length ≤ 1099511627776 → pre.length + post.length ≤ 1048576 → ∀ n, post.length < n → ∀ k0,
    spec_Open_L1_0 m n (.i 0) (.i acc) (.i pre.length) y0 y1 y2 (.l (pre ++ post)) y4 y5 y6 y7 y8 y9 k0 = k0 (.i (acc + askN post : Nat))
  | [], pre, acc, h, hs, n, hn, k0 => by
    obtain ⟨n, rfl⟩ : ∃ m', n = m' + 1 := ⟨n - 1, by omega⟩
    simp only [spec_Open_L1_0, T.int_i, T.rows_l, e0]
    rw [dec_f (by simp)]
    simp [askN]
  | x :: post, pre, acc, h, hs, n, hn, k0 => by
    obtain ⟨n, rfl⟩ : ∃ m', n = m' + 1 := ⟨n - 1, by omega⟩
    simp only [List.length_cons] at h hs hn
    have ih := fun acc h => specOpen_L1 post (pre ++ [x]) acc h (by simp; omega) n (by omega) k0
    simp only [spec_Open_L1_0, T.int_i, T.rows_l, ix_row, ix_nx pre (by omega), e0, drop_getD, askN]
    rw [dec_t (by simp; omega), dec_t (by simp; omega)]
    simp only [List.append_assoc, List.cons_append, List.nil_append, len_snoc] at ih
    by_cases hx : (x.getD 2 dflt).int = 1
    · rw [cond_t (by rw [hx]; rfl), show IntKind.i64.wrap ((acc : Int) + 1) = ((acc + 1 : Nat) : Int) by rw [wrap_i64 (by omega) (by omega)]; omega, ih (acc + 1) (by omega), if_pos hx, Nat.add_assoc]
    · rw [cond_f (beq_eq_false_iff_ne.2 hx), ih acc (by omega), if_neg hx, Nat.zero_add]
theorem specRest_L1 : ∀ (post pre : List (List T)), pre.length + post.length ≤ 1048576 → ∀ n, post.length < n → ∀ k0 k1,
    spec_Resting_L1_0 m n (.i 0) (.i pre.length) y0 y1 y2 (.l (pre ++ post)) y4 y5 y6 y7 y8 y9 k0 k1 = cond ((askN post == 0)) (k1 (.i 0) y0 y1 y2 (.l (pre ++ post)) y4 y5 y6 y7 y8 y9) (k0 (.b false))
  | [], pre, hs, n, hn, k0, k1 => by
    obtain ⟨n, rfl⟩ : ∃ m', n = m' + 1 := ⟨n - 1, by omega⟩
    simp only [spec_Resting_L1_0, T.int_i, T.rows_l, e0]
    rw [dec_f (by simp)]
    simp [askN]
  | x :: post, pre, hs, n, hn, k0, k1 => by
    obtain ⟨n, rfl⟩ : ∃ m', n = m' + 1 := ⟨n - 1, by omega⟩
    simp only [List.length_cons] at hs hn
    have ih := specRest_L1 post (pre ++ [x]) (by simp; omega) n (by omega) k0 k1
    simp only [spec_Resting_L1_0, T.int_i, T.rows_l, ix_row, ix_nx pre (by omega), e0, drop_getD, askN]
    rw [dec_t (by simp; omega), dec_t (by simp; omega)]
    simp only [List.append_assoc, List.cons_append, List.nil_append, len_snoc] at ih
    by_cases hx : (x.getD 2 dflt).int = 1
    · rw [cond_t (by rw [hx]; rfl), if_pos hx, cond_f (beq_eq_false_iff_ne.2 (by omega))]
    · rw [cond_f (beq_eq_false_iff_ne.2 hx), ih, if_neg hx, Nat.zero_add]
end
section
variable {m : Nat} (a0 a1 a2 : Int) (a3 a4 : List (List T)) (a5 : Int) (a6 a7 a8 a9 : List (List T))
theorem specOpen_ok (hm : 1048590 ≤ m) (h3 : a3.length ≤ 1048576) (h6 : ∀ r ∈ a6, WtRow esShard r) (b6 : rowsBulk a6 ≤ 1048576) (k : T → An) :
    spec_Open m (.i a0) (.i a1) (.i a2) (.l a3) (.l a4) (.i a5) (.l a6) (.l a7) (.l a8) (.l a9) k = k (.i (heldN a6 + askN a3 : Nat)) := by
  obtain ⟨m, rfl⟩ : ∃ m', m = m' + 1 := ⟨m - 1, by omega⟩
  have h1 := heldN_le h6
  have h2 := wtRows_len (by simp) h6
  simp only [spec_Open, T.rows_l]
  refine (specOpen_L0 _ _ _ _ _ _ _ _ _ a6 [] 0 (by omega) (by simp; omega) m (by omega) _).trans ?_
  simp only [T.int_i, e0, Nat.zero_add]
  exact specOpen_L1 _ _ _ _ _ _ _ _ _ a3 [] (heldN a6) (by omega) (by simp; omega) m (by omega) _
theorem specResting_ok (hm : 1048590 ≤ m) (h3 : a3.length ≤ 1048576) (h6 : ∀ r ∈ a6, WtRow esShard r) (b6 : rowsBulk a6 ≤ 1048576) (k : T → An) :
    spec_Resting m (.i a0) (.i a1) (.i a2) (.l a3) (.l a4) (.i a5) (.l a6) (.l a7) (.l a8) (.l a9) k = k (.b ((heldN a6 == 0) && ((askN a3 == 0) && (a5 == (a4.length : Int))))) := by
  obtain ⟨m, rfl⟩ : ∃ m', m = m' + 1 := ⟨m - 1, by omega⟩
  have h2 := wtRows_len (by simp) h6
  simp only [spec_Resting, T.rows_l]
  refine (specRest_L0 _ _ _ _ _ _ _ _ _ a6 [] (by simp; omega) m (by omega) _ _).trans ?_
  cases (heldN a6 == 0) with
  | false => rfl
  | true =>
    simp only [cond_true, T.int_i, e0, Bool.true_and]
    refine (specRest_L1 _ _ _ _ _ _ _ _ _ a3 [] (by simp; omega) m (by omega) _ _).trans ?_
    cases (askN a3 == 0) <;> rfl
end
mutual
def neT : LT → Bool
  | .sc .any => false
  | .sc _ => true
  | .sl es => !es.isEmpty && neTs es
def neTs : List LT → Bool
  | [] => true
  | e :: es => neT e && neTs es
end
theorem rowsSz_le {es : List LT} (hes : es ≠ []) (h : ∀ r, WtRow es r → rowSz r + es.length ≤ rowBulk r) : ∀ {rows : List (List T)}, (∀ r ∈ rows, WtRow es r) → rows.length + rowsSz rows ≤ rowsBulk rows
  | [], _ => by simp [rowsSz]
  | r :: rows, hr => by
    have h1 := rowsSz_le hes h (rows := rows) fun r h => hr r (by simp [h])
    have h2 := h r (hr r (by simp))
    have h3 : 0 < es.length := List.length_pos_iff.2 hes
    simp only [rowsSz, rowsBulk, List.length_cons]
    omega
mutual
theorem tsz_le : ∀ (lt : LT), neT lt = true → ∀ t, WtT lt t → tsz t + 1 ≤ tbulk t
  | .sc (.int k), _, t, h => by unfold WtT at h; obtain ⟨n, rfl, -⟩ := h; simp [tsz, tbulk]
  | .sc .bool, _, t, h => by unfold WtT at h; obtain ⟨n, rfl⟩ := h; simp [tsz, tbulk]
  | .sc .str, _, t, h => by unfold WtT at h; obtain ⟨n, rfl, -⟩ := h; simp [tsz, tbulk]
  | .sc .any, h, _, _ => by unfold neT at h; cases h
  | .sl es, hn, t, h => by
    unfold neT at hn
    simp only [Bool.and_eq_true, Bool.not_eq_true', List.isEmpty_eq_false_iff] at hn
    unfold WtT at h
    obtain ⟨rows, rfl, h⟩ := h
    have := rowsSz_le hn.1 (rowSz_le es hn.2) h
    simp only [tsz, tbulk]
    omega
theorem rowSz_le : ∀ (es : List LT), neTs es = true → ∀ r, WtRow es r → rowSz r + es.length ≤ rowBulk r
  | [], _, r, h => by unfold WtRow at h; subst h; simp [rowSz, rowBulk]
  | e :: es, hn, r, h => by
    unfold neTs at hn
    simp only [Bool.and_eq_true] at hn
    unfold WtRow at h
    obtain ⟨d, r, rfl, h1, h2⟩ := h
    have h3 := tsz_le e hn.1 d h1
    have h4 := rowSz_le es hn.2 r h2
    simp only [rowSz, rowBulk, List.length_cons]
    omega
end
theorem fnOpen_ok (a0 a1 a2 : Int) (a3 a4 : List (List T)) (a5 : Int) (a6 a7 a8 a9 : List (List T)) (h : WtRow esWorld [.i a0, .i a1, .i a2, .l a3, .l a4, .i a5, .l a6, .l a7, .l a8, .l a9])
    (hb : rowBulk [.i a0, .i a1, .i a2, .l a3, .l a4, .i a5, .l a6, .l a7, .l a8, .l a9] ≤ 1048576) (k : T → An) :
    laws_FnExactOpen 1049000 (.i a0) (.i a1) (.i a2) (.l a3) (.l a4) (.i a5) (.l a6) (.l a7) (.l a8) (.l a9) k = k (.b true) ∧
    laws_FnExactResting 1049000 (.i a0) (.i a1) (.i a2) (.l a3) (.l a4) (.i a5) (.l a6) (.l a7) (.l a8) (.l a9) k = k (.b true) := by
  have hz := rowSz_le esWorld (by decide) _ h
  unfold esWorld at h hz
  simp only [List.length_cons, List.length_nil] at hz
  have h3 : ∀ r ∈ a3, WtRow esJob r := by simp only [WtRow, WtT] at h; obtain ⟨_, _, e, -, _, _, rfl, -, _, _, rfl, -, _, _, rfl, ⟨_, rfl, h⟩, -⟩ := h; cases e; exact h
  have h4 : ∀ r ∈ a4, WtRow esChoice r := by simp only [WtRow, WtT] at h; obtain ⟨_, _, e, -, _, _, rfl, -, _, _, rfl, -, _, _, rfl, -, _, _, rfl, ⟨_, rfl, h⟩, -⟩ := h; cases e; exact h
  have h6 : ∀ r ∈ a6, WtRow esShard r := by simp only [WtRow, WtT] at h; obtain ⟨_, _, e, -, _, _, rfl, -, _, _, rfl, -, _, _, rfl, -, _, _, rfl, -, _, _, rfl, -, _, _, rfl, ⟨_, rfl, h⟩, -⟩ := h; cases e; exact h
  have h7 : ∀ r ∈ a7, WtRow esWord r := by simp only [WtRow, WtT] at h; obtain ⟨_, _, e, -, _, _, rfl, -, _, _, rfl, -, _, _, rfl, -, _, _, rfl, -, _, _, rfl, -, _, _, rfl, -, _, _, rfl, ⟨_, rfl, h⟩, -⟩ := h; cases e; exact h
  have h8 : ∀ r ∈ a8, WtRow esWord r := by simp only [WtRow, WtT] at h; obtain ⟨_, _, e, -, _, _, rfl, -, _, _, rfl, -, _, _, rfl, -, _, _, rfl, -, _, _, rfl, -, _, _, rfl, -, _, _, rfl, -, _, _, rfl, ⟨_, rfl, h⟩, -⟩ := h; cases e; exact h
  have h9 : ∀ r ∈ a9, WtRow esOrder r := by simp only [WtRow, WtT] at h; obtain ⟨_, _, e, -, _, _, rfl, -, _, _, rfl, -, _, _, rfl, -, _, _, rfl, -, _, _, rfl, -, _, _, rfl, -, _, _, rfl, -, _, _, rfl, -, _, _, rfl, ⟨_, rfl, h⟩, -⟩ := h; cases e; exact h
  have hb' := hb
  simp only [rowBulk, tbulk] at hb'
  have l3 := wtRows_len (es := esJob) (by simp) h3
  have z := szWorld_ok (m := 1048999) (by omega) a0 a1 a2 a3 a4 a5 a6 a7 a8 a9 h3 (by omega) h4 (by omega) h6 (by omega) h7 (by omega) h8 (by omega) h9 (by omega) 1048576 (by omega) (by omega)
  have t := toWorld_ok (m := 1048999) (by omega) a0 a1 a2 a3 a4 a5 a6 a7 a8 a9 h3 (by omega) h4 (by omega) h6 (by omega) h7 (by omega) h8 (by omega) h9 (by omega)
  have e := eqWorld_ok (m := 1048999) (by omega) a0 a1 a2 a3 a4 a5 a6 a7 a8 a9 h3 (by omega) h4 (by omega) h6 (by omega) h7 (by omega) h8 (by omega) h9 (by omega)
  constructor
  · simp only [laws_FnExactOpen, T.rows_l, z, T.int_i, t]
    rw [dec_f (by omega), specOpen_ok a0 a1 a2 a3 a4 a5 a6 a7 a8 a9 (by omega) (by omega) h6 (by omega)]
    rw [implOpen_ok a0 a1 a2 a3 a4 a5 a6 a7 a8 a9 (by omega) (by omega) h6 (by omega)]
    simp only [T.int_i, bne_self_eq_false, cond_false, e, T.bool_b, Bool.not_true]
  · simp only [laws_FnExactResting, T.rows_l, z, T.int_i, t]
    rw [dec_f (by omega), specResting_ok a0 a1 a2 a3 a4 a5 a6 a7 a8 a9 (by omega) (by omega) h6 (by omega)]
    rw [implResting_ok a0 a1 a2 a3 a4 a5 a6 a7 a8 a9 (by omega) (by omega) h6 (by omega)]
    simp only [T.bool_b, beq_self_eq_true, Bool.not_true, cond_false, e]
end Go.Proofs.Ytajemijnfpakgaa

namespace Go.Proofs.Ytajemijnfpakgaa
open Go Go.E Go.Proofs
def hashN (h : Nat) : List UInt8 → Nat
  | [] => h
  | b :: r => hashN (((h ^^^ b.toNat) * 16777619) % 4294967296) r
theorem wrap_u32 (x : Nat) : IntKind.u32.wrap (x : Int) = ((x % 4294967296 : Nat) : Int) := by
  have e32 : (2 : Int) ^ 32 = 4294967296 := by decide
  simp only [IntKind.wrap, IntKind.bits, IntKind.signed, Bool.false_and, Bool.false_eq_true, if_false, e32]
  omega
theorem ofInt_nat (w x : Nat) : BitVec.ofInt w (x : Int) = BitVec.ofNat w x := by simp
theorem xor_lt32 {a b : Nat} (ha : a < 4294967296) (hb : b < 4294967296) : a ^^^ b < 4294967296 := Nat.xor_lt_two_pow (n := 32) ha hb
theorem step32 (h : Nat) (hh : h < 4294967296) (b : UInt8) :
    IntKind.u32.wrap ((bvBack .u32 (BitVec.ofInt IntKind.u32.bits (h : Int) ^^^ BitVec.ofInt IntKind.u32.bits (IntKind.u32.wrap (b.toNat : Int)))).int * 16777619) = ((((h ^^^ b.toNat) * 16777619) % 4294967296 : Nat) : Int) := by
  have hb := b.toNat_lt
  have e1 : b.toNat % 4294967296 = b.toNat := Nat.mod_eq_of_lt (by omega)
  have hx := xor_lt32 hh (show b.toNat < 4294967296 by omega)
  simp only [bvBack, T.int_i, wrap_u32, e1, ofInt_nat]
  have e2 : (BitVec.ofNat IntKind.u32.bits h ^^^ BitVec.ofNat IntKind.u32.bits b.toNat).toNat = h ^^^ b.toNat := by
    rw [BitVec.toNat_xor, BitVec.toNat_ofNat, BitVec.toNat_ofNat]
    show (h % 2 ^ 32) ^^^ (b.toNat % 2 ^ 32) = _
    rw [Nat.mod_eq_of_lt (by simpa using hh), Nat.mod_eq_of_lt (by omega)]
  rw [e2, Nat.mod_eq_of_lt hx, show (((h ^^^ b.toNat : Nat) : Int) * 16777619) = (((h ^^^ b.toNat) * 16777619 : Nat) : Int) by rw [Int.natCast_mul]; rfl, wrap_u32]
theorem step64 (h : Nat) (hh : h < 4294967296) (b : UInt8) :
    bvBack .i64 (BitVec.ofInt IntKind.i64.bits (IntKind.i64.wrap ((bvBack .i64 (BitVec.ofInt IntKind.i64.bits (h : Int) ^^^ BitVec.ofInt IntKind.i64.bits (IntKind.i64.wrap (b.toNat : Int)))).int * 16777619)) &&& BitVec.ofInt IntKind.i64.bits 4294967295) =
      .i ((((h ^^^ b.toNat) * 16777619) % 4294967296 : Nat) : Int) := by
  have hb := b.toNat_lt
  have hx := xor_lt32 hh (show b.toNat < 4294967296 by omega)
  rw [wrap_i64 (x := (b.toNat : Int)) (by omega) (by omega)]
  have e2 : (BitVec.ofInt IntKind.i64.bits (h : Int) ^^^ BitVec.ofInt IntKind.i64.bits (b.toNat : Int)).toNat = h ^^^ b.toNat := by
    rw [ofInt_nat, ofInt_nat, BitVec.toNat_xor, BitVec.toNat_ofNat, BitVec.toNat_ofNat]
    show (h % 2 ^ 64) ^^^ (b.toNat % 2 ^ 64) = _
    rw [Nat.mod_eq_of_lt (by omega), Nat.mod_eq_of_lt (by omega)]
  simp only [bvBack, T.int_i, e2]
  rw [wrap_i64 (x := ((h ^^^ b.toNat : Nat) : Int)) (by omega) (by omega), show (((h ^^^ b.toNat : Nat) : Int) * 16777619) = (((h ^^^ b.toNat) * 16777619 : Nat) : Int) by rw [Int.natCast_mul]; rfl,
    wrap_i64 (x := (((h ^^^ b.toNat) * 16777619 : Nat) : Int)) (by omega) (by omega)]
  have e3 : (BitVec.ofInt IntKind.i64.bits (((h ^^^ b.toNat) * 16777619 : Nat) : Int) &&& BitVec.ofInt IntKind.i64.bits 4294967295).toNat = ((h ^^^ b.toNat) * 16777619) % 4294967296 := by
    rw [ofInt_nat, show (4294967295 : Int) = ((4294967295 : Nat) : Int) from rfl, ofInt_nat, BitVec.toNat_and, BitVec.toNat_ofNat, BitVec.toNat_ofNat]
    show (((h ^^^ b.toNat) * 16777619) % 2 ^ 64) &&& (4294967295 % 2 ^ 64) = _
    rw [Nat.mod_eq_of_lt (by omega)]
    exact Nat.and_two_pow_sub_one_eq_mod _ 32
  rw [e3]
  rw [wrap_i64 (by omega) (by omega)]
theorem ix_byte (pre : List UInt8) (x : UInt8) (post : List UInt8) : (pre ++ x :: post).getD (Int.toNat (pre.length : Int)) 0 = x := by simp [List.getD]
theorem implHash_loop (m : Nat) (s : ByteArray) (hs : s.size ≤ 4611686018427387904) : ∀ (post pre : List UInt8) (h : Nat), h < 4294967296 → s.data.toList = pre ++ post → ∀ n, post.length < n → ∀ k0,
    impl_Hash_L0_0 m n (.s s) (.i h) (.i pre.length) k0 = k0 (.i (hashN h post : Nat))
  | [], pre, h, hh, e, n, hn, k0 => by
    obtain ⟨n, rfl⟩ : ∃ m', n = m' + 1 := ⟨n - 1, by omega⟩
    have hz := ba_size s
    rw [e] at hz
    simp only [impl_Hash_L0_0, T.int_i, T.str_s]
    rw [dec_f (by simp at hz; omega)]
    rfl
  | x :: post, pre, h, hh, e, n, hn, k0 => by
    obtain ⟨n, rfl⟩ : ∃ m', n = m' + 1 := ⟨n - 1, by omega⟩
    have hz := ba_size s
    rw [e] at hz
    simp only [List.length_append, List.length_cons] at hz hn
    simp only [impl_Hash_L0_0, T.int_i, T.str_s, e, ix_byte, ix_nx pre (by omega), step32 h hh x]
    rw [dec_t (by omega), dec_t (by omega)]
    have ih := implHash_loop m s hs post (pre ++ [x]) _ (Nat.mod_lt ((h ^^^ x.toNat) * 16777619) (by omega)) (by rw [e]; simp) n (by omega) k0
    rw [len_snoc] at ih
    exact ih
theorem specHash_loop (m : Nat) (s : ByteArray) (hs : s.size ≤ 4611686018427387904) : ∀ (post pre : List UInt8) (h : Nat), h < 4294967296 → s.data.toList = pre ++ post → ∀ n, post.length < n → ∀ k0,
    spec_Hash_L0_0 m n (.s s) (.i h) (.i pre.length) k0 = k0 (.i (hashN h post : Nat))
  | [], pre, h, hh, e, n, hn, k0 => by
    obtain ⟨n, rfl⟩ : ∃ m', n = m' + 1 := ⟨n - 1, by omega⟩
    have hz := ba_size s
    rw [e] at hz
    simp only [spec_Hash_L0_0, T.int_i, T.str_s]
    rw [dec_f (by simp at hz; omega)]
    rfl
  | x :: post, pre, h, hh, e, n, hn, k0 => by
    obtain ⟨n, rfl⟩ : ∃ m', n = m' + 1 := ⟨n - 1, by omega⟩
    have hz := ba_size s
    rw [e] at hz
    simp only [List.length_append, List.length_cons] at hz hn
    simp only [spec_Hash_L0_0, T.int_i, T.str_s, e, ix_byte, ix_nx pre (by omega), step64 h hh x]
    rw [dec_t (by omega), dec_t (by omega)]
    have ih := specHash_loop m s hs post (pre ++ [x]) _ (Nat.mod_lt ((h ^^^ x.toNat) * 16777619) (by omega)) (by rw [e]; simp) n (by omega) k0
    rw [len_snoc] at ih
    exact ih
theorem hashN_lt : ∀ (l : List UInt8) (h : Nat), h < 4294967296 → hashN h l < 4294967296
  | [], h, hh => hh
  | b :: r, h, hh => hashN_lt r _ (Nat.mod_lt _ (by omega))
def hashP (s : ByteArray) : Nat := hashN 2166136261 s.data.toList
theorem hashP_lt (s : ByteArray) : hashP s < 4294967296 := hashN_lt _ _ (by omega)
theorem implHash_ok {m : Nat} (s : ByteArray) (hs : s.size ≤ 1048576) (hm : 1048580 ≤ m) (k : T → An) : impl_Hash m (.s s) k = k (.i (hashP s : Nat)) := by
  obtain ⟨m, rfl⟩ : ∃ m', m = m' + 1 := ⟨m - 1, by omega⟩
  have hz := ba_size s
  have hl := hashP_lt s
  refine (implHash_loop m s (by omega) s.data.toList [] 2166136261 (by omega) rfl m (by omega) _).trans ?_
  rw [T.int_i]
  exact congrArg (fun x => k (T.i x)) (wrap_i64 (x := (hashP s : Nat)) (by omega) (by omega))
theorem specHash_ok {m : Nat} (s : ByteArray) (hs : s.size ≤ 1048576) (hm : 1048580 ≤ m) (k : T → An) : spec_Hash m (.s s) k = k (.i (hashP s : Nat)) := by
  obtain ⟨m, rfl⟩ : ∃ m', m = m' + 1 := ⟨m - 1, by omega⟩
  have hz := ba_size s
  exact specHash_loop m s (by omega) s.data.toList [] 2166136261 (by omega) rfl m (by omega) _
/-- ShardOf -/
def shardP (s : ByteArray) (n : Nat) : Nat := if n = 0 then 0 else hashP s % n
theorem implShard_ok {m : Nat} (s : ByteArray) (n : Nat) (hs : s.size ≤ 1048576) (hm : 1048585 ≤ m) (k : T → An) : impl_ShardOf m (.s s) (.i n) k = k (.i (shardP s n : Nat)) := by
  obtain ⟨m, rfl⟩ : ∃ m', m = m' + 1 := ⟨m - 1, by omega⟩
  simp only [impl_ShardOf, T.int_i]
  unfold shardP
  by_cases h : n = 0
  · rw [dec_t (by omega), if_pos h]; rfl
  · rw [dec_f (by omega), implHash_ok s hs (by omega), if_neg h, cond_t (by simp; omega)]
    rw [T.int_i, ← Int.ofNat_tmod]
theorem specShard_ok {m : Nat} (s : ByteArray) (n : Nat) (hs : s.size ≤ 1048576) (hm : 1048585 ≤ m) (k : T → An) : spec_ShardOf m (.s s) (.i n) k = k (.i (shardP s n : Nat)) := by
  obtain ⟨m, rfl⟩ : ∃ m', m = m' + 1 := ⟨m - 1, by omega⟩
  simp only [spec_ShardOf, T.int_i]
  unfold shardP
  by_cases h : n = 0
  · rw [dec_t (by omega), if_pos h]; rfl
  · rw [dec_f (by omega), specHash_ok s hs (by omega), if_neg h, cond_t (by simp; omega)]
    rw [T.int_i, ← Int.ofNat_tmod]
/-- the first pair of a key -/
def fstIdx (key : ByteArray) : List (List T) → Option Nat
  | [] => none
  | r :: rs => cond ((r.getD 0 dflt).str.toList == key.toList) (some 0) ((fstIdx key rs).map (· + 1))
theorem fstIdx_lt {key : ByteArray} : ∀ {rows : List (List T)} {j : Nat}, fstIdx key rows = some j → j < rows.length
  | [], j, h => by cases h
  | r :: rs, j, h => by
    simp only [fstIdx] at h
    cases hc : ((r.getD 0 dflt).str.toList == key.toList) with
    | true => rw [hc] at h; cases h; simp
    | false =>
      rw [hc, cond_false] at h
      cases hf : fstIdx key rs with
      | none => rw [hf] at h; cases h
      | some i => rw [hf] at h; cases h; have := fstIdx_lt hf; simp; omega
theorem index_loop (m : Nat) (hm : 1 ≤ m) (key : ByteArray) : ∀ (post pre : List (List T)), pre.length + post.length ≤ 1048576 → ∀ n, post.length < n → ∀ k0 k1,
    slices_IndexFunc___impl_Pair_impl_Pair__L0_0 m n (.l (pre ++ post)) (.l [[.s key]]) (.i (pre ++ post).length) (.i pre.length) k0 k1 = (match fstIdx key post with | some j => k0 (.i (pre.length + j : Nat)) | none => k1)
  | [], pre, hs, n, hn, k0, k1 => by
    obtain ⟨n, rfl⟩ : ∃ m', n = m' + 1 := ⟨n - 1, by omega⟩
    simp only [slices_IndexFunc___impl_Pair_impl_Pair__L0_0, T.int_i, T.rows_l]
    rw [dec_f (by simp)]
    rfl
  | x :: post, pre, hs, n, hn, k0, k1 => by
    obtain ⟨n, rfl⟩ : ∃ m', n = m' + 1 := ⟨n - 1, by omega⟩
    obtain ⟨m, rfl⟩ : ∃ m', m = m' + 1 := ⟨m - 1, by omega⟩
    simp only [List.length_cons] at hs hn
    have ih := index_loop (m + 1) hm key post (pre ++ [x]) (by simp; omega) n (by omega) k0 k1
    simp only [slices_IndexFunc___impl_Pair_impl_Pair__L0_0, impl_pairAt_1, T.int_i, T.rows_l, ix_row, ix_nx pre (by omega), row1, List.headD_cons, List.getD_cons_zero, T.str_s, T.bool_b, fstIdx]
    rw [dec_t (by simp; omega), dec_t (by simp; omega)]
    simp only [List.append_assoc, List.cons_append, List.nil_append, len_snoc] at ih
    cases hc : ((x.getD 0 dflt).str.toList == key.toList) with
    | true => rfl
    | false =>
      simp only [cond_false]
      refine ih.trans ?_
      cases fstIdx key post with
      | none => rfl
      | some j => simp only [Option.map_some]; congr 2; simp; omega
theorem getLoop (m : Nat) (key : ByteArray) : ∀ (post pre : List (List T)), pre.length + post.length ≤ 1048576 → ∀ n, post.length < n → ∀ k0 k1,
    spec_GetKey_L0_0 m n (.l (pre ++ post)) (.s key) (.i pre.length) k0 k1 = (match fstIdx key post with | some j => k0 ((post.getD j []).getD 1 dflt) (.b true) | none => k1)
  | [], pre, hs, n, hn, k0, k1 => by
    obtain ⟨n, rfl⟩ : ∃ m', n = m' + 1 := ⟨n - 1, by omega⟩
    simp only [spec_GetKey_L0_0, T.int_i, T.rows_l]
    rw [dec_f (by simp)]
    rfl
  | x :: post, pre, hs, n, hn, k0, k1 => by
    obtain ⟨n, rfl⟩ : ∃ m', n = m' + 1 := ⟨n - 1, by omega⟩
    simp only [List.length_cons] at hs hn
    have ih := getLoop m key post (pre ++ [x]) (by simp; omega) n (by omega) k0 k1
    simp only [spec_GetKey_L0_0, T.int_i, T.rows_l, ix_row, ix_nx pre (by omega), T.str_s, fstIdx, drop_getD]
    rw [dec_t (by simp; omega), dec_t (by simp; omega)]
    simp only [List.append_assoc, List.cons_append, List.nil_append, len_snoc] at ih
    cases hc : ((x.getD 0 dflt).str.toList == key.toList) with
    | true =>
      simp only [cond_true]
      rw [dec_t (by simp; omega)]
      rfl
    | false =>
      simp only [cond_false]
      refine ih.trans ?_
      cases fstIdx key post with
      | none => rfl
      | some j => rfl
theorem getKey_ok {m : Nat} (rows : List (List T)) (key : ByteArray) (hr : rows.length ≤ 1048576) (hm : 1048590 ≤ m) (k : T → T → An) : impl_GetKey m (.l rows) (.s key) k = spec_GetKey m (.l rows) (.s key) k := by
  obtain ⟨m, rfl⟩ : ∃ m', m = m' + 1 := ⟨m - 1, by omega⟩
  obtain ⟨m, rfl⟩ : ∃ m', m = m' + 1 := ⟨m - 1, by omega⟩
  obtain ⟨m, rfl⟩ : ∃ m', m = m' + 1 := ⟨m - 1, by omega⟩
  simp only [impl_GetKey, spec_GetKey, impl_pairAt, slices_IndexFunc___impl_Pair_impl_Pair_, T.rows_l, row1, List.headD_cons]
  have h1 := index_loop m (by omega) key rows [] (by simp; omega) m (by omega)
  have h2 := getLoop (m + 1 + 1) key rows [] (by simp; omega) (m + 1 + 1) (by omega)
  simp only [List.nil_append, List.length_nil, Nat.zero_add] at h1 h2
  have z : ((0 : Nat) : Int) = 0 := rfl
  rw [z] at h1 h2
  rw [h1, h2]
  cases hf : fstIdx key rows with
  | none =>
    simp only [T.int_i]
    rw [dec_t (by omega)]
  | some j =>
    have := fstIdx_lt hf
    simp only [T.int_i, drop_getD]
    rw [dec_f (by omega), dec_t (by omega)]
    rfl
theorem getKey_ex {m : Nat} (rows : List (List T)) (key : ByteArray) (hr : rows.length ≤ 1048576) (hm : 1048590 ≤ m) :
    ∃ (v : T) (b : Bool), (∀ k, impl_GetKey m (.l rows) (.s key) k = k v (.b b)) ∧ (∀ k, spec_GetKey m (.l rows) (.s key) k = k v (.b b)) := by
  have key1 : ∃ (v : T) (b : Bool), ∀ k, spec_GetKey m (.l rows) (.s key) k = k v (.b b) := by
    obtain ⟨m, rfl⟩ : ∃ m', m = m' + 1 := ⟨m - 1, by omega⟩
    have h2 := getLoop m key rows [] (by simp; omega) m (by omega)
    have z : ((([] : List (List T)).length : Nat) : Int) = 0 := rfl
    simp only [List.nil_append, z] at h2
    cases hf : fstIdx key rows with
    | none =>
      refine ⟨.s ⟨#[]⟩, false, fun k => ?_⟩
      simp only [spec_GetKey, T.rows_l, h2, hf]
    | some j =>
      refine ⟨(rows.getD j []).getD 1 dflt, true, fun k => ?_⟩
      simp only [spec_GetKey, T.rows_l, h2, hf]
  obtain ⟨v, b, h⟩ := key1
  exact ⟨v, b, fun k => (getKey_ok rows key hr hm k).trans (h k), h⟩
section
variable {m : Nat} (a0 a1 a2 : Int) (a3 a4 : List (List T)) (a5 : Int) (a6 a7 a8 a9 : List (List T)) (key : ByteArray)
theorem map_len {n : Nat} : ∀ {rows : List (List T)}, (∀ r ∈ rows, WtRow esShard r) → rowsBulk rows ≤ n → ∀ j, ((rows.getD j []).getD 3 dflt).rows.length ≤ n
  | [], _, _, j => by simp [dflt, T.rows]
  | x :: rows, h, hb, 0 => by
    have hx := h x (by simp)
    simp only [esShard, WtRow, WtT] at hx
    obtain ⟨_, _, rfl, ⟨a0, rfl, -⟩, _, _, rfl, ⟨a1, rfl, h1⟩, _, _, rfl, ⟨a2, rfl, -⟩, _, _, rfl, ⟨a3, rfl, h3⟩, _, _, rfl, ⟨a4, rfl, h4⟩, rfl⟩ := hx
    have := wtRows_len (es := esPair) (by simp) h3
    simp only [rowsBulk, rowBulk, tbulk] at hb
    simp only [List.getD_cons_zero, List.getD_cons_succ, T.rows_l]
    omega
  | x :: rows, h, hb, j + 1 => by
    simp only [List.getD_cons_succ]
    exact map_len (fun r hr => h r (by simp [hr])) (by simp only [rowsBulk] at hb; omega) j
theorem readAt_ex (hm : 1048600 ≤ m) (hk : key.size ≤ 1048576) (h6 : ∀ r ∈ a6, WtRow esShard r) (b6 : rowsBulk a6 ≤ 1048576) :
    ∃ (v : T) (b : Bool), (∀ k, impl_ReadAt m (.i a0) (.i a1) (.i a2) (.l a3) (.l a4) (.i a5) (.l a6) (.l a7) (.l a8) (.l a9) (.s key) k = k v (.b b)) ∧
      (∀ k, spec_ReadAt m (.i a0) (.i a1) (.i a2) (.l a3) (.l a4) (.i a5) (.l a6) (.l a7) (.l a8) (.l a9) (.s key) k = k v (.b b)) := by
  obtain ⟨m, rfl⟩ : ∃ m', m = m' + 1 := ⟨m - 1, by omega⟩
  have hl := wtRows_len (by simp) h6
  by_cases hz : a6.length = 0
  · refine ⟨.s ⟨#[]⟩, false, fun k => ?_, fun k => ?_⟩
    · simp only [impl_ReadAt, T.rows_l]
      rw [cond_t (by simp [hz])]
    · simp only [spec_ReadAt, T.rows_l]
      rw [specShard_ok key a6.length hk (by omega), T.int_i, dec_t (by omega)]
  · have hlt : shardP key a6.length < a6.length := by
      unfold shardP
      rw [if_neg hz]
      exact Nat.mod_lt _ (by omega)
    have hmp := map_len h6 b6 (shardP key a6.length)
    obtain ⟨v, b, h1, h2⟩ := getKey_ex (m := m) ((a6.getD (shardP key a6.length) []).getD 3 dflt).rows key hmp (by omega)
    have ez : Int.toNat ((shardP key a6.length : Nat) : Int) = shardP key a6.length := rfl
    refine ⟨v, b, fun k => ?_, fun k => ?_⟩
    · simp only [impl_ReadAt, T.rows_l]
      rw [show (((a6.length : Nat) : Int) == 0) = false from beq_eq_false_iff_ne.2 (by omega), cond_false]
      rw [implShard_ok key a6.length hk (by omega)]
      simp only [T.int_i]
      rw [dec_t (by omega), ez, drop_getD, h1]
    · simp only [spec_ReadAt, T.rows_l]
      rw [specShard_ok key a6.length hk (by omega)]
      simp only [T.int_i]
      rw [dec_f (by omega), dec_t (by omega), ez, drop_getD, h2]
theorem fnReadAt_ok (hk : key.size ≤ 1048576) (h : WtRow esWorld [.i a0, .i a1, .i a2, .l a3, .l a4, .i a5, .l a6, .l a7, .l a8, .l a9])
    (hb : rowBulk [.i a0, .i a1, .i a2, .l a3, .l a4, .i a5, .l a6, .l a7, .l a8, .l a9] ≤ 1048576) (k : T → An) :
    laws_FnExactReadAt 1049000 (.i a0) (.i a1) (.i a2) (.l a3) (.l a4) (.i a5) (.l a6) (.l a7) (.l a8) (.l a9) (.s key) k = k (.b true) := by
  have hz := rowSz_le esWorld (by decide) _ h
  unfold esWorld at h hz
  simp only [List.length_cons, List.length_nil] at hz
  have h3 : ∀ r ∈ a3, WtRow esJob r := by simp only [WtRow, WtT] at h; obtain ⟨_, _, e, -, _, _, rfl, -, _, _, rfl, -, _, _, rfl, ⟨_, rfl, h⟩, -⟩ := h; cases e; exact h
  have h4 : ∀ r ∈ a4, WtRow esChoice r := by simp only [WtRow, WtT] at h; obtain ⟨_, _, e, -, _, _, rfl, -, _, _, rfl, -, _, _, rfl, -, _, _, rfl, ⟨_, rfl, h⟩, -⟩ := h; cases e; exact h
  have h6 : ∀ r ∈ a6, WtRow esShard r := by simp only [WtRow, WtT] at h; obtain ⟨_, _, e, -, _, _, rfl, -, _, _, rfl, -, _, _, rfl, -, _, _, rfl, -, _, _, rfl, -, _, _, rfl, ⟨_, rfl, h⟩, -⟩ := h; cases e; exact h
  have h7 : ∀ r ∈ a7, WtRow esWord r := by simp only [WtRow, WtT] at h; obtain ⟨_, _, e, -, _, _, rfl, -, _, _, rfl, -, _, _, rfl, -, _, _, rfl, -, _, _, rfl, -, _, _, rfl, -, _, _, rfl, ⟨_, rfl, h⟩, -⟩ := h; cases e; exact h
  have h8 : ∀ r ∈ a8, WtRow esWord r := by simp only [WtRow, WtT] at h; obtain ⟨_, _, e, -, _, _, rfl, -, _, _, rfl, -, _, _, rfl, -, _, _, rfl, -, _, _, rfl, -, _, _, rfl, -, _, _, rfl, -, _, _, rfl, ⟨_, rfl, h⟩, -⟩ := h; cases e; exact h
  have h9 : ∀ r ∈ a9, WtRow esOrder r := by simp only [WtRow, WtT] at h; obtain ⟨_, _, e, -, _, _, rfl, -, _, _, rfl, -, _, _, rfl, -, _, _, rfl, -, _, _, rfl, -, _, _, rfl, -, _, _, rfl, -, _, _, rfl, -, _, _, rfl, ⟨_, rfl, h⟩, -⟩ := h; cases e; exact h
  have hb' := hb
  simp only [rowBulk, tbulk] at hb'
  have z := szWorld_ok (m := 1048999) (by omega) a0 a1 a2 a3 a4 a5 a6 a7 a8 a9 h3 (by omega) h4 (by omega) h6 (by omega) h7 (by omega) h8 (by omega) h9 (by omega) 1048576 (by omega) (by omega)
  have t := toWorld_ok (m := 1048999) (by omega) a0 a1 a2 a3 a4 a5 a6 a7 a8 a9 h3 (by omega) h4 (by omega) h6 (by omega) h7 (by omega) h8 (by omega) h9 (by omega)
  have e := eqWorld_ok (m := 1048999) (by omega) a0 a1 a2 a3 a4 a5 a6 a7 a8 a9 h3 (by omega) h4 (by omega) h6 (by omega) h7 (by omega) h8 (by omega) h9 (by omega)
  obtain ⟨v, b, h1, h2⟩ := readAt_ex (m := 1048999) a0 a1 a2 a3 a4 a5 a6 a7 a8 a9 key (by omega) hk h6 (by omega)
  simp only [laws_FnExactReadAt, T.rows_l, T.str_s, z, T.int_i, t, h1, h2, T.bool_b, beq_toList_self, beq_self_eq_true, Bool.not_true, cond_false, e]
  rw [dec_f (by omega), dec_f (by omega)]
  rfl
end
end Go.Proofs.Ytajemijnfpakgaa

