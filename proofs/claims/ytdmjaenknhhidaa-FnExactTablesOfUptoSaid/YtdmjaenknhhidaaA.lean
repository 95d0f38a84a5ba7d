/- A part of the proof: texts S6L, S6M, S6B, S6C: see the last part's opening words. -/
import Derived.Test.YtdmjaenknhhidaaQ
set_option linter.unusedVariables false
set_option linter.unusedSimpArgs false
set_option linter.unnecessarySimpa false
namespace Go.Proofs.Ytdmjaenknhhidaa
open Go Go.E Go.Proofs
mutual
def tsz : T → Nat
  | .i _ => 0
  | .b _ => 0
  | .s s => s.size
  | .l rows => rows.length + rowsSz rows
  | .x _ => 0
def rowSz : List T → Nat
  | [] => 0
  | d :: ds => tsz d + rowSz ds
def rowsSz : List (List T) → Nat
  | [] => 0
  | r :: rs => rowSz r + rowsSz rs
end
theorem rowsSz_app : ∀ a b : List (List T), rowsSz (a ++ b) = rowsSz a + rowsSz b
  | [], b => by simp [rowsSz]
  | x :: a, b => by simp only [List.cons_append, rowsSz, rowsSz_app a b]; omega
theorem rowsBulk_app : ∀ a b : List (List T), rowsBulk (a ++ b) = rowsBulk a + rowsBulk b
  | [], b => by simp [rowsBulk]
  | x :: a, b => by simp only [List.cons_append, rowsBulk, rowsBulk_app a b]; omega
theorem ix_row (pre : List (List T)) (x : List T) (post : List (List T)) : (pre ++ x :: post).getD (Int.toNat (pre.length : Int)) [] = x := by simp [List.getD]
theorem ix_nx {α : Type} (pre : List α) (h : pre.length < 4611686018427387904) : IntKind.i64.wrap ((pre.length : Int) + 1) = (pre.length : Int) + 1 := wrap_i64 (by omega) (by omega)
theorem len_snoc {α : Type} (pre : List α) (x : α) : (((pre ++ [x]).length : Nat) : Int) = (pre.length : Int) + 1 := by simp
theorem set_row (pre : List (List T)) (x y : List T) (post : List (List T)) : (pre ++ x :: post).set (Int.toNat (pre.length : Int)) y = pre ++ y :: post := by simp [List.set_append]
theorem wtRow_ne {es : List LT} (hes : es ≠ []) {r : List T} (h : WtRow es r) : 1 ≤ rowBulk r := by
  match es, hes with
  | e :: es, _ =>
    unfold WtRow at h
    obtain ⟨d, r, rfl, -, -⟩ := h
    have : 1 ≤ tbulk d := by cases d <;> simp [tbulk]
    simp only [rowBulk]; omega
theorem wtRows_len {es : List LT} (hes : es ≠ []) : ∀ {rows : List (List T)}, (∀ r ∈ rows, WtRow es r) → rows.length ≤ rowsBulk rows
  | [], _ => by simp [rowsBulk]
  | r :: rows, h => by
    have h1 := wtRow_ne hes (h r (by simp))
    have h2 := wtRows_len hes (rows := rows) fun r hr => h r (by simp [hr])
    simp only [rowsBulk, List.length_cons]; omega
abbrev esOp : List LT := [.sc (.int .i64), .sc .str, .sc .str]
theorem toOp_ok {m : Nat} (hm : 1048602 ≤ m) (a0 : Int) (a1 : ByteArray) (a2 : ByteArray)  (k : T → T → T → An) : laws_toOp m (.i a0) (.s a1) (.s a2) k = k (.i a0) (.s a1) (.s a2) := by
  obtain ⟨m, rfl⟩ : ∃ m', m = m' + 1 := ⟨m - 1, by omega⟩
  simp only [laws_toOp, T.rows_l]
theorem toOpS_loop (m : Nat) (hm : 1048602 ≤ m) : ∀ (post pre z : List (List T)), (∀ r ∈ post, WtRow esOp r) → rowsBulk post ≤ 1048576 → z.length = post.length → (∀ r ∈ z, r.length = 3) → pre.length + post.length ≤ 1048576 →
    ∀ n, post.length < n → ∀ k0, laws_toOpS_L0_0 m n (.l (pre ++ post)) (.i pre.length) (.l (pre ++ z)) k0 = k0 (.l (pre ++ post))
  | [], pre, z, h, hb, hz, hz2, hs, n, hn, k0 => by
    obtain ⟨n, rfl⟩ : ∃ m', n = m' + 1 := ⟨n - 1, by omega⟩
    obtain rfl : z = [] := List.eq_nil_of_length_eq_zero hz
    simp only [laws_toOpS_L0_0, T.int_i, T.rows_l]
    rw [dec_f (by simp)]
  | x :: post, pre, z, h, hb, hz, hz2, hs, n, hn, k0 => by
    obtain ⟨n, rfl⟩ : ∃ m', n = m' + 1 := ⟨n - 1, by omega⟩
    simp only [List.length_cons] at hs hn hz
    match z, hz, hz2 with
    | r :: z, hz, hz2 =>
    simp only [List.length_cons] at hz
    match r, hz2 r (by simp) with
    | [c0, c1, c2], _ =>
    have ih := toOpS_loop m hm post (pre ++ [x]) z (fun r hr => h r (by simp [hr])) (by simp only [rowsBulk] at hb; omega) (by omega) (fun r hr => hz2 r (by simp [hr])) (by simp; omega) n (by omega) k0
    have hx := h x (by simp)
    simp only [esOp, WtRow, WtT] at hx
    obtain ⟨_, _, rfl, ⟨a0, rfl, -⟩, _, _, rfl, ⟨a1, rfl, -⟩, _, _, rfl, ⟨a2, rfl, -⟩, rfl⟩ := hx
    simp only [rowsBulk, rowBulk, tbulk] at hb
    simp only [laws_toOpS_L0_0, T.int_i, T.rows_l, ix_row, ix_nx pre (by omega), set_row, List.getD_cons_zero, List.getD_cons_succ, List.set_cons_zero, List.set_cons_succ]
    rw [dec_t (by simp; omega), dec_t (by simp; omega)]
    rw [toOp_ok (by omega) a0 a1 a2, dec_t (by simp; omega), dec_t (by simp)]
    simpa using ih
theorem toOpS_ok {m : Nat} (hm : 1048603 ≤ m) (rows : List (List T)) (h : ∀ r ∈ rows, WtRow esOp r) (hb : rowsBulk rows ≤ 1048576) (k : T → An) : laws_toOpS m (.l rows) k = k (.l rows) := by
  obtain ⟨m, rfl⟩ : ∃ m', m = m' + 1 := ⟨m - 1, by omega⟩
  have hl := wtRows_len (by simp) h
  simp only [laws_toOpS, T.rows_l, T.int_i]
  rw [dec_t (by omega), dec_t (by unfold maxCells; omega)]
  exact toOpS_loop m (by omega) rows [] (List.replicate _ _) h hb (by simp) (fun r hr => by rw [List.eq_of_mem_replicate hr]; rfl) (by simp; omega) m (by omega) _
theorem szOp_ok {m : Nat} (hm : 1048602 ≤ m) (a0 : Int) (a1 : ByteArray) (a2 : ByteArray)  (l : Int) (hl : (rowSz [.i a0, .s a1, .s a2] : Int) ≤ l) (hl2 : l ≤ 1048576) (k : T → An) : laws_szOp m (.i a0) (.s a1) (.s a2) (.i l) k = k (.i (l - (rowSz [.i a0, .s a1, .s a2] : Nat))) := by
  obtain ⟨m, rfl⟩ : ∃ m', m = m' + 1 := ⟨m - 1, by omega⟩
  simp only [rowSz, tsz] at hl ⊢
  simp only [laws_szOp, T.rows_l, T.int_i, T.str_s]
  rw [show IntKind.i64.wrap (l - (a1.size : Int)) = l - (a1.size : Int) from wrap_i64 (by omega) (by omega)]
  rw [dec_f (by omega)]
  rw [show IntKind.i64.wrap ((l - (a1.size : Int)) - (a2.size : Int)) = (l - (a1.size : Int)) - (a2.size : Int) from wrap_i64 (by omega) (by omega)]
  rw [dec_f (by omega)]
  congr 2; omega
theorem szOpS_loop (m : Nat) (hm : 1048602 ≤ m) : ∀ (post pre : List (List T)) (l : Int), (∀ r ∈ post, WtRow esOp r) → rowsBulk post ≤ 1048576 → (rowsSz post : Int) ≤ l → l ≤ 1048576 → pre.length + post.length ≤ 1048576 →
    ∀ n, post.length < n → ∀ k0 k1, laws_szOpS_L0_0 m n (.l (pre ++ post)) (.i l) (.i pre.length) k0 k1 = k1 (.i (l - rowsSz post))
  | [], pre, l, h, hb, hl, hl2, hs, n, hn, k0, k1 => by
    obtain ⟨n, rfl⟩ : ∃ m', n = m' + 1 := ⟨n - 1, by omega⟩
    simp only [laws_szOpS_L0_0, T.int_i, T.rows_l]
    rw [dec_f (by simp)]
    simp [rowsSz]
  | x :: post, pre, l, h, hb, hl, hl2, hs, n, hn, k0, k1 => by
    obtain ⟨n, rfl⟩ : ∃ m', n = m' + 1 := ⟨n - 1, by omega⟩
    simp only [List.length_cons] at hs hn
    simp only [rowsSz] at hl ⊢
    have ih := fun l hl hl2 => szOpS_loop m hm post (pre ++ [x]) l (fun r hr => h r (by simp [hr])) (by simp only [rowsBulk] at hb; omega) hl hl2 (by simp; omega) n (by omega) k0 k1
    have hx := h x (by simp)
    simp only [esOp, WtRow, WtT] at hx
    obtain ⟨_, _, rfl, ⟨a0, rfl, -⟩, _, _, rfl, ⟨a1, rfl, -⟩, _, _, rfl, ⟨a2, rfl, -⟩, rfl⟩ := hx
    simp only [rowsBulk, rowBulk, tbulk] at hb
    simp only [laws_szOpS_L0_0, T.int_i, T.rows_l, ix_row, ix_nx pre (by omega), List.getD_cons_zero, List.getD_cons_succ]
    rw [dec_t (by simp; omega), dec_t (by simp; omega)]
    rw [szOp_ok (by omega) a0 a1 a2 l (by omega) hl2, T.int_i, dec_f (by omega)]
    have := ih (l - (rowSz [.i a0, .s a1, .s a2] : Nat)) (by omega) (by omega)
    simp only [List.append_assoc, List.cons_append, List.nil_append, len_snoc] at this
    refine this.trans ?_
    congr 2; omega
theorem szOpS_ok {m : Nat} (hm : 1048603 ≤ m) (rows : List (List T)) (h : ∀ r ∈ rows, WtRow esOp r) (hb : rowsBulk rows ≤ 1048576) (l : Int) (hl : ((rows.length + rowsSz rows : Nat) : Int) ≤ l) (hl2 : l ≤ 1048576) (k : T → An) : laws_szOpS m (.l rows) (.i l) k = k (.i (l - (rows.length + rowsSz rows : Nat))) := by
  obtain ⟨m, rfl⟩ : ∃ m', m = m' + 1 := ⟨m - 1, by omega⟩
  have hlen := wtRows_len (by simp) h
  simp only [laws_szOpS, T.rows_l, T.int_i]
  rw [show IntKind.i64.wrap (l - (rows.length : Int)) = l - (rows.length : Int) from wrap_i64 (by omega) (by omega), dec_f (by omega)]
  refine (szOpS_loop m (by omega) rows [] (l - rows.length) h hb (by omega) (by omega) (by simp; omega) m (by omega) _ _).trans ?_
  congr 2; omega
theorem eqOp_ok {m : Nat} (hm : 1048602 ≤ m) (a0 : Int) (a1 : ByteArray) (a2 : ByteArray)  (k : T → An) : laws_eqOp m (.i a0) (.s a1) (.s a2) (.i a0) (.s a1) (.s a2) k = k (.b true) := by
  obtain ⟨m, rfl⟩ : ∃ m', m = m' + 1 := ⟨m - 1, by omega⟩
  simp only [laws_eqOp, T.rows_l, T.int_i, T.str_s, T.bool_b, bne_self_eq_false, beq_toList_self, beq_self_eq_true, Bool.not_true, cond_false]
theorem eqOpS_loop (m : Nat) (hm : 1048602 ≤ m) : ∀ (post pre : List (List T)), (∀ r ∈ post, WtRow esOp r) → rowsBulk post ≤ 1048576 → pre.length + post.length ≤ 1048576 →
    ∀ n, post.length < n → ∀ k0 k1, laws_eqOpS_L0_0 m n (.l (pre ++ post)) (.l (pre ++ post)) (.i pre.length) k0 k1 = k1
  | [], pre, h, hb, hs, n, hn, k0, k1 => by
    obtain ⟨n, rfl⟩ : ∃ m', n = m' + 1 := ⟨n - 1, by omega⟩
    simp only [laws_eqOpS_L0_0, T.int_i, T.rows_l]
    rw [dec_f (by simp)]
  | x :: post, pre, h, hb, hs, n, hn, k0, k1 => by
    obtain ⟨n, rfl⟩ : ∃ m', n = m' + 1 := ⟨n - 1, by omega⟩
    simp only [List.length_cons] at hs hn
    have ih := eqOpS_loop m hm post (pre ++ [x]) (fun r hr => h r (by simp [hr])) (by simp only [rowsBulk] at hb; omega) (by simp; omega) n (by omega) k0 k1
    have hx := h x (by simp)
    simp only [esOp, WtRow, WtT] at hx
    obtain ⟨_, _, rfl, ⟨a0, rfl, -⟩, _, _, rfl, ⟨a1, rfl, -⟩, _, _, rfl, ⟨a2, rfl, -⟩, rfl⟩ := hx
    simp only [rowsBulk, rowBulk, tbulk] at hb
    simp only [laws_eqOpS_L0_0, T.int_i, T.rows_l, ix_row, ix_nx pre (by omega), List.getD_cons_zero, List.getD_cons_succ]
    rw [dec_t (by simp; omega), dec_t (by simp; omega), dec_t (by simp; omega)]
    rw [eqOp_ok (by omega) a0 a1 a2]
    simpa using ih
theorem eqOpS_ok {m : Nat} (hm : 1048603 ≤ m) (rows : List (List T)) (h : ∀ r ∈ rows, WtRow esOp r) (hb : rowsBulk rows ≤ 1048576) (k : T → An) : laws_eqOpS m (.l rows) (.l rows) k = k (.b true) := by
  obtain ⟨m, rfl⟩ : ∃ m', m = m' + 1 := ⟨m - 1, by omega⟩
  have hlen := wtRows_len (by simp) h
  simp only [laws_eqOpS, T.rows_l, T.int_i, bne_self_eq_false, cond_false]
  exact eqOpS_loop m (by omega) rows [] h hb (by simp; omega) m (by omega) _ _
abbrev esInt : List LT := [.sc (.int .i64)]
theorem toIntS_loop (m : Nat) (hm : 1048602 ≤ m) : ∀ (post pre z : List (List T)), (∀ r ∈ post, WtRow esInt r) → rowsBulk post ≤ 1048576 → z.length = post.length → (∀ r ∈ z, r.length = 1) → pre.length + post.length ≤ 1048576 →
    ∀ n, post.length < n → ∀ k0, laws_toIntS_L0_0 m n (.l (pre ++ post)) (.i pre.length) (.l (pre ++ z)) k0 = k0 (.l (pre ++ post))
  | [], pre, z, h, hb, hz, hz2, hs, n, hn, k0 => by
    obtain ⟨n, rfl⟩ : ∃ m', n = m' + 1 := ⟨n - 1, by omega⟩
    obtain rfl : z = [] := List.eq_nil_of_length_eq_zero hz
    simp only [laws_toIntS_L0_0, T.int_i, T.rows_l]
    rw [dec_f (by simp)]
  | x :: post, pre, z, h, hb, hz, hz2, hs, n, hn, k0 => by
    obtain ⟨n, rfl⟩ : ∃ m', n = m' + 1 := ⟨n - 1, by omega⟩
    simp only [List.length_cons] at hs hn hz
    match z, hz, hz2 with
    | r :: z, hz, hz2 =>
    simp only [List.length_cons] at hz
    match r, hz2 r (by simp) with
    | [c0], _ =>
    have ih := toIntS_loop m hm post (pre ++ [x]) z (fun r hr => h r (by simp [hr])) (by simp only [rowsBulk] at hb; omega) (by omega) (fun r hr => hz2 r (by simp [hr])) (by simp; omega) n (by omega) k0
    have hx := h x (by simp)
    simp only [esInt, WtRow, WtT] at hx
    obtain ⟨_, _, rfl, ⟨a0, rfl, -⟩, rfl⟩ := hx
    simp only [rowsBulk, rowBulk, tbulk] at hb
    simp only [laws_toIntS_L0_0, T.int_i, T.rows_l, ix_row, ix_nx pre (by omega), set_row, List.getD_cons_zero, List.getD_cons_succ, List.set_cons_zero, List.set_cons_succ]
    rw [dec_t (by simp; omega), dec_t (by simp; omega)]
    rw [dec_t (by simp; omega), dec_t (by simp)]
    simpa using ih
theorem toIntS_ok {m : Nat} (hm : 1048603 ≤ m) (rows : List (List T)) (h : ∀ r ∈ rows, WtRow esInt r) (hb : rowsBulk rows ≤ 1048576) (k : T → An) : laws_toIntS m (.l rows) k = k (.l rows) := by
  obtain ⟨m, rfl⟩ : ∃ m', m = m' + 1 := ⟨m - 1, by omega⟩
  have hl := wtRows_len (by simp) h
  simp only [laws_toIntS, T.rows_l, T.int_i]
  rw [dec_t (by omega), dec_t (by unfold maxCells; omega)]
  exact toIntS_loop m (by omega) rows [] (List.replicate _ _) h hb (by simp) (fun r hr => by rw [List.eq_of_mem_replicate hr]; rfl) (by simp; omega) m (by omega) _
theorem rowsInt_sz : ∀ {rows : List (List T)}, (∀ r ∈ rows, WtRow esInt r) → rowsSz rows = 0
  | [], _ => rfl
  | x :: rows, h => by
    have ih := rowsInt_sz (rows := rows) fun r hr => h r (by simp [hr])
    have hx := h x (by simp)
    simp only [esInt, WtRow, WtT] at hx
    obtain ⟨_, _, rfl, ⟨a0, rfl, -⟩, rfl⟩ := hx
    simp only [rowsSz, rowSz, tsz, ih]
theorem szIntS_ok {m : Nat} (hm : 1048603 ≤ m) (rows : List (List T)) (h : ∀ r ∈ rows, WtRow esInt r) (hb : rowsBulk rows ≤ 1048576) (l : Int) (hl : ((rows.length + rowsSz rows : Nat) : Int) ≤ l) (hl2 : l ≤ 1048576) (k : T → An) : laws_szIntS m (.l rows) (.i l) k = k (.i (l - (rows.length + rowsSz rows : Nat))) := by
  obtain ⟨m, rfl⟩ : ∃ m', m = m' + 1 := ⟨m - 1, by omega⟩
  have e := rowsInt_sz h
  rw [e] at hl ⊢
  have hlen := wtRows_len (by simp) h
  simp only [laws_szIntS, T.rows_l, T.int_i]
  rw [show IntKind.i64.wrap (l - (rows.length : Int)) = l - (rows.length : Int) from wrap_i64 (by omega) (by omega), dec_f (by omega)]
  congr 2
theorem eqIntS_loop (m : Nat) (hm : 1048602 ≤ m) : ∀ (post pre : List (List T)), (∀ r ∈ post, WtRow esInt r) → rowsBulk post ≤ 1048576 → pre.length + post.length ≤ 1048576 →
    ∀ n, post.length < n → ∀ k0 k1, laws_eqIntS_L0_0 m n (.l (pre ++ post)) (.l (pre ++ post)) (.i pre.length) k0 k1 = k1
  | [], pre, h, hb, hs, n, hn, k0, k1 => by
    obtain ⟨n, rfl⟩ : ∃ m', n = m' + 1 := ⟨n - 1, by omega⟩
    simp only [laws_eqIntS_L0_0, T.int_i, T.rows_l]
    rw [dec_f (by simp)]
  | x :: post, pre, h, hb, hs, n, hn, k0, k1 => by
    obtain ⟨n, rfl⟩ : ∃ m', n = m' + 1 := ⟨n - 1, by omega⟩
    simp only [List.length_cons] at hs hn
    have ih := eqIntS_loop m hm post (pre ++ [x]) (fun r hr => h r (by simp [hr])) (by simp only [rowsBulk] at hb; omega) (by simp; omega) n (by omega) k0 k1
    have hx := h x (by simp)
    simp only [esInt, WtRow, WtT] at hx
    obtain ⟨_, _, rfl, ⟨a0, rfl, -⟩, rfl⟩ := hx
    simp only [rowsBulk, rowBulk, tbulk] at hb
    simp only [laws_eqIntS_L0_0, T.int_i, T.rows_l, ix_row, ix_nx pre (by omega), List.getD_cons_zero, List.getD_cons_succ]
    rw [dec_t (by simp; omega), dec_t (by simp; omega), dec_t (by simp; omega)]
    simp only [T.int_i, bne_self_eq_false, cond_false]
    simpa using ih
theorem eqIntS_ok {m : Nat} (hm : 1048603 ≤ m) (rows : List (List T)) (h : ∀ r ∈ rows, WtRow esInt r) (hb : rowsBulk rows ≤ 1048576) (k : T → An) : laws_eqIntS m (.l rows) (.l rows) k = k (.b true) := by
  obtain ⟨m, rfl⟩ : ∃ m', m = m' + 1 := ⟨m - 1, by omega⟩
  have hlen := wtRows_len (by simp) h
  simp only [laws_eqIntS, T.rows_l, T.int_i, bne_self_eq_false, cond_false]
  exact eqIntS_loop m (by omega) rows [] h hb (by simp; omega) m (by omega) _ _
abbrev esJob : List LT := [.sc (.int .i64), .sl esOp, .sc (.int .i64), .sl esInt]
theorem toJob_ok {m : Nat} (hm : 1048606 ≤ m) (a0 : Int) (a1 : List (List T)) (a2 : Int) (a3 : List (List T)) (h1 : ∀ r ∈ a1, WtRow esOp r) (b1 : rowsBulk a1 ≤ 1048576) (h3 : ∀ r ∈ a3, WtRow esInt r) (b3 : rowsBulk a3 ≤ 1048576) (k : T → T → T → T → An) : laws_toJob m (.i a0) (.l a1) (.i a2) (.l a3) k = k (.i a0) (.l a1) (.i a2) (.l a3) := by
  obtain ⟨m, rfl⟩ : ∃ m', m = m' + 1 := ⟨m - 1, by omega⟩
  simp only [laws_toJob, T.rows_l]
  rw [toOpS_ok (by omega) a1 h1 b1]
  try simp only [T.rows_l]
  rw [toIntS_ok (by omega) a3 h3 b3]
  try simp only [T.rows_l]
theorem toJobS_loop (m : Nat) (hm : 1048606 ≤ m) : ∀ (post pre z : List (List T)), (∀ r ∈ post, WtRow esJob r) → rowsBulk post ≤ 1048576 → z.length = post.length → (∀ r ∈ z, r.length = 4) → pre.length + post.length ≤ 1048576 →
    ∀ n, post.length < n → ∀ k0, laws_toJobS_L0_0 m n (.l (pre ++ post)) (.i pre.length) (.l (pre ++ z)) k0 = k0 (.l (pre ++ post))
  | [], pre, z, h, hb, hz, hz2, hs, n, hn, k0 => by
    obtain ⟨n, rfl⟩ : ∃ m', n = m' + 1 := ⟨n - 1, by omega⟩
    obtain rfl : z = [] := List.eq_nil_of_length_eq_zero hz
    simp only [laws_toJobS_L0_0, T.int_i, T.rows_l]
    rw [dec_f (by simp)]
  | x :: post, pre, z, h, hb, hz, hz2, hs, n, hn, k0 => by
    obtain ⟨n, rfl⟩ : ∃ m', n = m' + 1 := ⟨n - 1, by omega⟩
    simp only [List.length_cons] at hs hn hz
    match z, hz, hz2 with
    | r :: z, hz, hz2 =>
    simp only [List.length_cons] at hz
    match r, hz2 r (by simp) with
    | [c0, c1, c2, c3], _ =>
    have ih := toJobS_loop m hm post (pre ++ [x]) z (fun r hr => h r (by simp [hr])) (by simp only [rowsBulk] at hb; omega) (by omega) (fun r hr => hz2 r (by simp [hr])) (by simp; omega) n (by omega) k0
    have hx := h x (by simp)
    simp only [esJob, WtRow, WtT] at hx
    obtain ⟨_, _, rfl, ⟨a0, rfl, -⟩, _, _, rfl, ⟨a1, rfl, h1⟩, _, _, rfl, ⟨a2, rfl, -⟩, _, _, rfl, ⟨a3, rfl, h3⟩, rfl⟩ := hx
    simp only [rowsBulk, rowBulk, tbulk] at hb
    simp only [laws_toJobS_L0_0, T.int_i, T.rows_l, ix_row, ix_nx pre (by omega), set_row, List.getD_cons_zero, List.getD_cons_succ, List.set_cons_zero, List.set_cons_succ]
    rw [dec_t (by simp; omega), dec_t (by simp; omega)]
    rw [toJob_ok (by omega) a0 a1 a2 a3 h1 (by omega) h3 (by omega), dec_t (by simp; omega), dec_t (by simp)]
    simpa using ih
theorem toJobS_ok {m : Nat} (hm : 1048607 ≤ m) (rows : List (List T)) (h : ∀ r ∈ rows, WtRow esJob r) (hb : rowsBulk rows ≤ 1048576) (k : T → An) : laws_toJobS m (.l rows) k = k (.l rows) := by
  obtain ⟨m, rfl⟩ : ∃ m', m = m' + 1 := ⟨m - 1, by omega⟩
  have hl := wtRows_len (by simp) h
  simp only [laws_toJobS, T.rows_l, T.int_i]
  rw [dec_t (by omega), dec_t (by unfold maxCells; omega)]
  exact toJobS_loop m (by omega) rows [] (List.replicate _ _) h hb (by simp) (fun r hr => by rw [List.eq_of_mem_replicate hr]; rfl) (by simp; omega) m (by omega) _
theorem szJob_ok {m : Nat} (hm : 1048606 ≤ m) (a0 : Int) (a1 : List (List T)) (a2 : Int) (a3 : List (List T)) (h1 : ∀ r ∈ a1, WtRow esOp r) (b1 : rowsBulk a1 ≤ 1048576) (h3 : ∀ r ∈ a3, WtRow esInt r) (b3 : rowsBulk a3 ≤ 1048576) (l : Int) (hl : (rowSz [.i a0, .l a1, .i a2, .l a3] : Int) ≤ l) (hl2 : l ≤ 1048576) (k : T → An) : laws_szJob m (.i a0) (.l a1) (.i a2) (.l a3) (.i l) k = k (.i (l - (rowSz [.i a0, .l a1, .i a2, .l a3] : Nat))) := by
  obtain ⟨m, rfl⟩ : ∃ m', m = m' + 1 := ⟨m - 1, by omega⟩
  simp only [rowSz, tsz] at hl ⊢
  simp only [laws_szJob, T.rows_l, T.int_i, T.str_s]
  rw [szOpS_ok (by omega) a1 h1 b1 l (by omega) (by omega), T.int_i, dec_f (by omega)]
  rw [szIntS_ok (by omega) a3 h3 b3 (l - ((a1.length + rowsSz a1 : Nat) : Int)) (by omega) (by omega), T.int_i, dec_f (by omega)]
  congr 2; omega
theorem szJobS_loop (m : Nat) (hm : 1048606 ≤ m) : ∀ (post pre : List (List T)) (l : Int), (∀ r ∈ post, WtRow esJob r) → rowsBulk post ≤ 1048576 → (rowsSz post : Int) ≤ l → l ≤ 1048576 → pre.length + post.length ≤ 1048576 →
    ∀ n, post.length < n → ∀ k0 k1, laws_szJobS_L0_0 m n (.l (pre ++ post)) (.i l) (.i pre.length) k0 k1 = k1 (.i (l - rowsSz post))
  | [], pre, l, h, hb, hl, hl2, hs, n, hn, k0, k1 => by
    obtain ⟨n, rfl⟩ : ∃ m', n = m' + 1 := ⟨n - 1, by omega⟩
    simp only [laws_szJobS_L0_0, T.int_i, T.rows_l]
    rw [dec_f (by simp)]
    simp [rowsSz]
  | x :: post, pre, l, h, hb, hl, hl2, hs, n, hn, k0, k1 => by
    obtain ⟨n, rfl⟩ : ∃ m', n = m' + 1 := ⟨n - 1, by omega⟩
    simp only [List.length_cons] at hs hn
    simp only [rowsSz] at hl ⊢
    have ih := fun l hl hl2 => szJobS_loop m hm post (pre ++ [x]) l (fun r hr => h r (by simp [hr])) (by simp only [rowsBulk] at hb; omega) hl hl2 (by simp; omega) n (by omega) k0 k1
    have hx := h x (by simp)
    simp only [esJob, WtRow, WtT] at hx
    obtain ⟨_, _, rfl, ⟨a0, rfl, -⟩, _, _, rfl, ⟨a1, rfl, h1⟩, _, _, rfl, ⟨a2, rfl, -⟩, _, _, rfl, ⟨a3, rfl, h3⟩, rfl⟩ := hx
    simp only [rowsBulk, rowBulk, tbulk] at hb
    simp only [laws_szJobS_L0_0, T.int_i, T.rows_l, ix_row, ix_nx pre (by omega), List.getD_cons_zero, List.getD_cons_succ]
    rw [dec_t (by simp; omega), dec_t (by simp; omega)]
    rw [szJob_ok (by omega) a0 a1 a2 a3 h1 (by omega) h3 (by omega) l (by omega) hl2, T.int_i, dec_f (by omega)]
    have := ih (l - (rowSz [.i a0, .l a1, .i a2, .l a3] : Nat)) (by omega) (by omega)
    simp only [List.append_assoc, List.cons_append, List.nil_append, len_snoc] at this
    refine this.trans ?_
    congr 2; omega
theorem szJobS_ok {m : Nat} (hm : 1048607 ≤ m) (rows : List (List T)) (h : ∀ r ∈ rows, WtRow esJob r) (hb : rowsBulk rows ≤ 1048576) (l : Int) (hl : ((rows.length + rowsSz rows : Nat) : Int) ≤ l) (hl2 : l ≤ 1048576) (k : T → An) : laws_szJobS m (.l rows) (.i l) k = k (.i (l - (rows.length + rowsSz rows : Nat))) := by
  obtain ⟨m, rfl⟩ : ∃ m', m = m' + 1 := ⟨m - 1, by omega⟩
  have hlen := wtRows_len (by simp) h
  simp only [laws_szJobS, T.rows_l, T.int_i]
  rw [show IntKind.i64.wrap (l - (rows.length : Int)) = l - (rows.length : Int) from wrap_i64 (by omega) (by omega), dec_f (by omega)]
  refine (szJobS_loop m (by omega) rows [] (l - rows.length) h hb (by omega) (by omega) (by simp; omega) m (by omega) _ _).trans ?_
  congr 2; omega
theorem eqJob_ok {m : Nat} (hm : 1048606 ≤ m) (a0 : Int) (a1 : List (List T)) (a2 : Int) (a3 : List (List T)) (h1 : ∀ r ∈ a1, WtRow esOp r) (b1 : rowsBulk a1 ≤ 1048576) (h3 : ∀ r ∈ a3, WtRow esInt r) (b3 : rowsBulk a3 ≤ 1048576) (k : T → An) : laws_eqJob m (.i a0) (.l a1) (.i a2) (.l a3) (.i a0) (.l a1) (.i a2) (.l a3) k = k (.b true) := by
  obtain ⟨m, rfl⟩ : ∃ m', m = m' + 1 := ⟨m - 1, by omega⟩
  simp only [laws_eqJob, T.rows_l, T.int_i, T.str_s, T.bool_b, bne_self_eq_false, beq_toList_self, beq_self_eq_true, Bool.not_true, cond_false, eqOpS_ok (m := m) (by omega) a1 h1 b1, eqIntS_ok (m := m) (by omega) a3 h3 b3]
theorem eqJobS_loop (m : Nat) (hm : 1048606 ≤ m) : ∀ (post pre : List (List T)), (∀ r ∈ post, WtRow esJob r) → rowsBulk post ≤ 1048576 → pre.length + post.length ≤ 1048576 →
    ∀ n, post.length < n → ∀ k0 k1, laws_eqJobS_L0_0 m n (.l (pre ++ post)) (.l (pre ++ post)) (.i pre.length) k0 k1 = k1
  | [], pre, h, hb, hs, n, hn, k0, k1 => by
    obtain ⟨n, rfl⟩ : ∃ m', n = m' + 1 := ⟨n - 1, by omega⟩
    simp only [laws_eqJobS_L0_0, T.int_i, T.rows_l]
    rw [dec_f (by simp)]
  | x :: post, pre, h, hb, hs, n, hn, k0, k1 => by
    obtain ⟨n, rfl⟩ : ∃ m', n = m' + 1 := ⟨n - 1, by omega⟩
    simp only [List.length_cons] at hs hn
    have ih := eqJobS_loop m hm post (pre ++ [x]) (fun r hr => h r (by simp [hr])) (by simp only [rowsBulk] at hb; omega) (by simp; omega) n (by omega) k0 k1
    have hx := h x (by simp)
    simp only [esJob, WtRow, WtT] at hx
    obtain ⟨_, _, rfl, ⟨a0, rfl, -⟩, _, _, rfl, ⟨a1, rfl, h1⟩, _, _, rfl, ⟨a2, rfl, -⟩, _, _, rfl, ⟨a3, rfl, h3⟩, rfl⟩ := hx
    simp only [rowsBulk, rowBulk, tbulk] at hb
    simp only [laws_eqJobS_L0_0, T.int_i, T.rows_l, ix_row, ix_nx pre (by omega), List.getD_cons_zero, List.getD_cons_succ]
    rw [dec_t (by simp; omega), dec_t (by simp; omega), dec_t (by simp; omega)]
    rw [eqJob_ok (by omega) a0 a1 a2 a3 h1 (by omega) h3 (by omega)]
    simpa using ih
theorem eqJobS_ok {m : Nat} (hm : 1048607 ≤ m) (rows : List (List T)) (h : ∀ r ∈ rows, WtRow esJob r) (hb : rowsBulk rows ≤ 1048576) (k : T → An) : laws_eqJobS m (.l rows) (.l rows) k = k (.b true) := by
  obtain ⟨m, rfl⟩ : ∃ m', m = m' + 1 := ⟨m - 1, by omega⟩
  have hlen := wtRows_len (by simp) h
  simp only [laws_eqJobS, T.rows_l, T.int_i, bne_self_eq_false, cond_false]
  exact eqJobS_loop m (by omega) rows [] h hb (by simp; omega) m (by omega) _ _
abbrev esChoice : List LT := [.sc (.int .i64), .sc .bool]
theorem toChoice_ok {m : Nat} (hm : 1048602 ≤ m) (a0 : Int) (a1 : Bool)  (k : T → T → An) : laws_toChoice m (.i a0) (.b a1) k = k (.i a0) (.b a1) := by
  obtain ⟨m, rfl⟩ : ∃ m', m = m' + 1 := ⟨m - 1, by omega⟩
  simp only [laws_toChoice, T.rows_l]
theorem toChoiceS_loop (m : Nat) (hm : 1048602 ≤ m) : ∀ (post pre z : List (List T)), (∀ r ∈ post, WtRow esChoice r) → rowsBulk post ≤ 1048576 → z.length = post.length → (∀ r ∈ z, r.length = 2) → pre.length + post.length ≤ 1048576 →
    ∀ n, post.length < n → ∀ k0, laws_toChoiceS_L0_0 m n (.l (pre ++ post)) (.i pre.length) (.l (pre ++ z)) k0 = k0 (.l (pre ++ post))
  | [], pre, z, h, hb, hz, hz2, hs, n, hn, k0 => by
    obtain ⟨n, rfl⟩ : ∃ m', n = m' + 1 := ⟨n - 1, by omega⟩
    obtain rfl : z = [] := List.eq_nil_of_length_eq_zero hz
    simp only [laws_toChoiceS_L0_0, T.int_i, T.rows_l]
    rw [dec_f (by simp)]
  | x :: post, pre, z, h, hb, hz, hz2, hs, n, hn, k0 => by
    obtain ⟨n, rfl⟩ : ∃ m', n = m' + 1 := ⟨n - 1, by omega⟩
    simp only [List.length_cons] at hs hn hz
    match z, hz, hz2 with
    | r :: z, hz, hz2 =>
    simp only [List.length_cons] at hz
    match r, hz2 r (by simp) with
    | [c0, c1], _ =>
    have ih := toChoiceS_loop m hm post (pre ++ [x]) z (fun r hr => h r (by simp [hr])) (by simp only [rowsBulk] at hb; omega) (by omega) (fun r hr => hz2 r (by simp [hr])) (by simp; omega) n (by omega) k0
    have hx := h x (by simp)
    simp only [esChoice, WtRow, WtT] at hx
    obtain ⟨_, _, rfl, ⟨a0, rfl, -⟩, _, _, rfl, ⟨a1, rfl⟩, rfl⟩ := hx
    simp only [rowsBulk, rowBulk, tbulk] at hb
    simp only [laws_toChoiceS_L0_0, T.int_i, T.rows_l, ix_row, ix_nx pre (by omega), set_row, List.getD_cons_zero, List.getD_cons_succ, List.set_cons_zero, List.set_cons_succ]
    rw [dec_t (by simp; omega), dec_t (by simp; omega)]
    rw [toChoice_ok (by omega) a0 a1, dec_t (by simp; omega), dec_t (by simp)]
    simpa using ih
theorem toChoiceS_ok {m : Nat} (hm : 1048603 ≤ m) (rows : List (List T)) (h : ∀ r ∈ rows, WtRow esChoice r) (hb : rowsBulk rows ≤ 1048576) (k : T → An) : laws_toChoiceS m (.l rows) k = k (.l rows) := by
  obtain ⟨m, rfl⟩ : ∃ m', m = m' + 1 := ⟨m - 1, by omega⟩
  have hl := wtRows_len (by simp) h
  simp only [laws_toChoiceS, T.rows_l, T.int_i]
  rw [dec_t (by omega), dec_t (by unfold maxCells; omega)]
  exact toChoiceS_loop m (by omega) rows [] (List.replicate _ _) h hb (by simp) (fun r hr => by rw [List.eq_of_mem_replicate hr]; rfl) (by simp; omega) m (by omega) _
theorem rowsChoice_sz : ∀ {rows : List (List T)}, (∀ r ∈ rows, WtRow esChoice r) → rowsSz rows = 0
  | [], _ => rfl
  | x :: rows, h => by
    have ih := rowsChoice_sz (rows := rows) fun r hr => h r (by simp [hr])
    have hx := h x (by simp)
    simp only [esChoice, WtRow, WtT] at hx
    obtain ⟨_, _, rfl, ⟨a0, rfl, -⟩, _, _, rfl, ⟨a1, rfl⟩, rfl⟩ := hx
    simp only [rowsSz, rowSz, tsz, ih]
theorem szChoiceS_ok {m : Nat} (hm : 1048603 ≤ m) (rows : List (List T)) (h : ∀ r ∈ rows, WtRow esChoice r) (hb : rowsBulk rows ≤ 1048576) (l : Int) (hl : ((rows.length + rowsSz rows : Nat) : Int) ≤ l) (hl2 : l ≤ 1048576) (k : T → An) : laws_szChoiceS m (.l rows) (.i l) k = k (.i (l - (rows.length + rowsSz rows : Nat))) := by
  obtain ⟨m, rfl⟩ : ∃ m', m = m' + 1 := ⟨m - 1, by omega⟩
  have e := rowsChoice_sz h
  rw [e] at hl ⊢
  have hlen := wtRows_len (by simp) h
  simp only [laws_szChoiceS, T.rows_l, T.int_i]
  rw [show IntKind.i64.wrap (l - (rows.length : Int)) = l - (rows.length : Int) from wrap_i64 (by omega) (by omega), dec_f (by omega)]
  congr 2
theorem eqChoice_ok {m : Nat} (hm : 1048602 ≤ m) (a0 : Int) (a1 : Bool)  (k : T → An) : laws_eqChoice m (.i a0) (.b a1) (.i a0) (.b a1) k = k (.b true) := by
  obtain ⟨m, rfl⟩ : ∃ m', m = m' + 1 := ⟨m - 1, by omega⟩
  simp only [laws_eqChoice, T.rows_l, T.int_i, T.str_s, T.bool_b, bne_self_eq_false, beq_toList_self, beq_self_eq_true, Bool.not_true, cond_false]
theorem eqChoiceS_loop (m : Nat) (hm : 1048602 ≤ m) : ∀ (post pre : List (List T)), (∀ r ∈ post, WtRow esChoice r) → rowsBulk post ≤ 1048576 → pre.length + post.length ≤ 1048576 →
    ∀ n, post.length < n → ∀ k0 k1, laws_eqChoiceS_L0_0 m n (.l (pre ++ post)) (.l (pre ++ post)) (.i pre.length) k0 k1 = k1
  | [], pre, h, hb, hs, n, hn, k0, k1 => by
    obtain ⟨n, rfl⟩ : ∃ m', n = m' + 1 := ⟨n - 1, by omega⟩
    simp only [laws_eqChoiceS_L0_0, T.int_i, T.rows_l]
    rw [dec_f (by simp)]
  | x :: post, pre, h, hb, hs, n, hn, k0, k1 => by
    obtain ⟨n, rfl⟩ : ∃ m', n = m' + 1 := ⟨n - 1, by omega⟩
    simp only [List.length_cons] at hs hn
    have ih := eqChoiceS_loop m hm post (pre ++ [x]) (fun r hr => h r (by simp [hr])) (by simp only [rowsBulk] at hb; omega) (by simp; omega) n (by omega) k0 k1
    have hx := h x (by simp)
    simp only [esChoice, WtRow, WtT] at hx
    obtain ⟨_, _, rfl, ⟨a0, rfl, -⟩, _, _, rfl, ⟨a1, rfl⟩, rfl⟩ := hx
    simp only [rowsBulk, rowBulk, tbulk] at hb
    simp only [laws_eqChoiceS_L0_0, T.int_i, T.rows_l, ix_row, ix_nx pre (by omega), List.getD_cons_zero, List.getD_cons_succ]
    rw [dec_t (by simp; omega), dec_t (by simp; omega), dec_t (by simp; omega)]
    rw [eqChoice_ok (by omega) a0 a1]
    simpa using ih
theorem eqChoiceS_ok {m : Nat} (hm : 1048603 ≤ m) (rows : List (List T)) (h : ∀ r ∈ rows, WtRow esChoice r) (hb : rowsBulk rows ≤ 1048576) (k : T → An) : laws_eqChoiceS m (.l rows) (.l rows) k = k (.b true) := by
  obtain ⟨m, rfl⟩ : ∃ m', m = m' + 1 := ⟨m - 1, by omega⟩
  have hlen := wtRows_len (by simp) h
  simp only [laws_eqChoiceS, T.rows_l, T.int_i, bne_self_eq_false, cond_false]
  exact eqChoiceS_loop m (by omega) rows [] h hb (by simp; omega) m (by omega) _ _
abbrev esCoord : List LT := [.sc (.int .i64), .sc (.int .i64), .sc (.int .i64), .sl esJob, .sl esChoice, .sc (.int .i64)]
theorem toCoord_ok {m : Nat} (hm : 1048610 ≤ m) (a0 : Int) (a1 : Int) (a2 : Int) (a3 : List (List T)) (a4 : List (List T)) (a5 : Int) (h3 : ∀ r ∈ a3, WtRow esJob r) (b3 : rowsBulk a3 ≤ 1048576) (h4 : ∀ r ∈ a4, WtRow esChoice r) (b4 : rowsBulk a4 ≤ 1048576) (k : T → T → T → T → T → T → An) : laws_toCoord m (.i a0) (.i a1) (.i a2) (.l a3) (.l a4) (.i a5) k = k (.i a0) (.i a1) (.i a2) (.l a3) (.l a4) (.i a5) := by
  obtain ⟨m, rfl⟩ : ∃ m', m = m' + 1 := ⟨m - 1, by omega⟩
  simp only [laws_toCoord, T.rows_l]
  rw [toJobS_ok (by omega) a3 h3 b3]
  try simp only [T.rows_l]
  rw [toChoiceS_ok (by omega) a4 h4 b4]
  try simp only [T.rows_l]
theorem szCoord_ok {m : Nat} (hm : 1048610 ≤ m) (a0 : Int) (a1 : Int) (a2 : Int) (a3 : List (List T)) (a4 : List (List T)) (a5 : Int) (h3 : ∀ r ∈ a3, WtRow esJob r) (b3 : rowsBulk a3 ≤ 1048576) (h4 : ∀ r ∈ a4, WtRow esChoice r) (b4 : rowsBulk a4 ≤ 1048576) (l : Int) (hl : (rowSz [.i a0, .i a1, .i a2, .l a3, .l a4, .i a5] : Int) ≤ l) (hl2 : l ≤ 1048576) (k : T → An) : laws_szCoord m (.i a0) (.i a1) (.i a2) (.l a3) (.l a4) (.i a5) (.i l) k = k (.i (l - (rowSz [.i a0, .i a1, .i a2, .l a3, .l a4, .i a5] : Nat))) := by
  obtain ⟨m, rfl⟩ : ∃ m', m = m' + 1 := ⟨m - 1, by omega⟩
  simp only [rowSz, tsz] at hl ⊢
  simp only [laws_szCoord, T.rows_l, T.int_i, T.str_s]
  rw [szJobS_ok (by omega) a3 h3 b3 l (by omega) (by omega), T.int_i, dec_f (by omega)]
  rw [szChoiceS_ok (by omega) a4 h4 b4 (l - ((a3.length + rowsSz a3 : Nat) : Int)) (by omega) (by omega), T.int_i, dec_f (by omega)]
  congr 2; omega
theorem eqCoord_ok {m : Nat} (hm : 1048610 ≤ m) (a0 : Int) (a1 : Int) (a2 : Int) (a3 : List (List T)) (a4 : List (List T)) (a5 : Int) (h3 : ∀ r ∈ a3, WtRow esJob r) (b3 : rowsBulk a3 ≤ 1048576) (h4 : ∀ r ∈ a4, WtRow esChoice r) (b4 : rowsBulk a4 ≤ 1048576) (k : T → An) : laws_eqCoord m (.i a0) (.i a1) (.i a2) (.l a3) (.l a4) (.i a5) (.i a0) (.i a1) (.i a2) (.l a3) (.l a4) (.i a5) k = k (.b true) := by
  obtain ⟨m, rfl⟩ : ∃ m', m = m' + 1 := ⟨m - 1, by omega⟩
  simp only [laws_eqCoord, T.rows_l, T.int_i, T.str_s, T.bool_b, bne_self_eq_false, beq_toList_self, beq_self_eq_true, Bool.not_true, cond_false, eqJobS_ok (m := m) (by omega) a3 h3 b3, eqChoiceS_ok (m := m) (by omega) a4 h4 b4]
abbrev esRec : List LT := [.sc (.int .i64), .sc (.int .i64), .sl esOp]
theorem toRec_ok {m : Nat} (hm : 1048606 ≤ m) (a0 : Int) (a1 : Int) (a2 : List (List T)) (h2 : ∀ r ∈ a2, WtRow esOp r) (b2 : rowsBulk a2 ≤ 1048576) (k : T → T → T → An) : laws_toRec m (.i a0) (.i a1) (.l a2) k = k (.i a0) (.i a1) (.l a2) := by
  obtain ⟨m, rfl⟩ : ∃ m', m = m' + 1 := ⟨m - 1, by omega⟩
  simp only [laws_toRec, T.rows_l]
  rw [toOpS_ok (by omega) a2 h2 b2]
  try simp only [T.rows_l]
theorem toRecS_loop (m : Nat) (hm : 1048606 ≤ m) : ∀ (post pre z : List (List T)), (∀ r ∈ post, WtRow esRec r) → rowsBulk post ≤ 1048576 → z.length = post.length → (∀ r ∈ z, r.length = 3) → pre.length + post.length ≤ 1048576 →
    ∀ n, post.length < n → ∀ k0, laws_toRecS_L0_0 m n (.l (pre ++ post)) (.i pre.length) (.l (pre ++ z)) k0 = k0 (.l (pre ++ post))
  | [], pre, z, h, hb, hz, hz2, hs, n, hn, k0 => by
    obtain ⟨n, rfl⟩ : ∃ m', n = m' + 1 := ⟨n - 1, by omega⟩
    obtain rfl : z = [] := List.eq_nil_of_length_eq_zero hz
    simp only [laws_toRecS_L0_0, T.int_i, T.rows_l]
    rw [dec_f (by simp)]
  | x :: post, pre, z, h, hb, hz, hz2, hs, n, hn, k0 => by
    obtain ⟨n, rfl⟩ : ∃ m', n = m' + 1 := ⟨n - 1, by omega⟩
    simp only [List.length_cons] at hs hn hz
    match z, hz, hz2 with
    | r :: z, hz, hz2 =>
    simp only [List.length_cons] at hz
    match r, hz2 r (by simp) with
    | [c0, c1, c2], _ =>
    have ih := toRecS_loop m hm post (pre ++ [x]) z (fun r hr => h r (by simp [hr])) (by simp only [rowsBulk] at hb; omega) (by omega) (fun r hr => hz2 r (by simp [hr])) (by simp; omega) n (by omega) k0
    have hx := h x (by simp)
    simp only [esRec, WtRow, WtT] at hx
    obtain ⟨_, _, rfl, ⟨a0, rfl, -⟩, _, _, rfl, ⟨a1, rfl, -⟩, _, _, rfl, ⟨a2, rfl, h2⟩, rfl⟩ := hx
    simp only [rowsBulk, rowBulk, tbulk] at hb
    simp only [laws_toRecS_L0_0, T.int_i, T.rows_l, ix_row, ix_nx pre (by omega), set_row, List.getD_cons_zero, List.getD_cons_succ, List.set_cons_zero, List.set_cons_succ]
    rw [dec_t (by simp; omega), dec_t (by simp; omega)]
    rw [toRec_ok (by omega) a0 a1 a2 h2 (by omega), dec_t (by simp; omega), dec_t (by simp)]
    simpa using ih
theorem toRecS_ok {m : Nat} (hm : 1048607 ≤ m) (rows : List (List T)) (h : ∀ r ∈ rows, WtRow esRec r) (hb : rowsBulk rows ≤ 1048576) (k : T → An) : laws_toRecS m (.l rows) k = k (.l rows) := by
  obtain ⟨m, rfl⟩ : ∃ m', m = m' + 1 := ⟨m - 1, by omega⟩
  have hl := wtRows_len (by simp) h
  simp only [laws_toRecS, T.rows_l, T.int_i]
  rw [dec_t (by omega), dec_t (by unfold maxCells; omega)]
  exact toRecS_loop m (by omega) rows [] (List.replicate _ _) h hb (by simp) (fun r hr => by rw [List.eq_of_mem_replicate hr]; rfl) (by simp; omega) m (by omega) _
theorem szRec_ok {m : Nat} (hm : 1048606 ≤ m) (a0 : Int) (a1 : Int) (a2 : List (List T)) (h2 : ∀ r ∈ a2, WtRow esOp r) (b2 : rowsBulk a2 ≤ 1048576) (l : Int) (hl : (rowSz [.i a0, .i a1, .l a2] : Int) ≤ l) (hl2 : l ≤ 1048576) (k : T → An) : laws_szRec m (.i a0) (.i a1) (.l a2) (.i l) k = k (.i (l - (rowSz [.i a0, .i a1, .l a2] : Nat))) := by
  obtain ⟨m, rfl⟩ : ∃ m', m = m' + 1 := ⟨m - 1, by omega⟩
  simp only [rowSz, tsz] at hl ⊢
  simp only [laws_szRec, T.rows_l, T.int_i, T.str_s]
  rw [szOpS_ok (by omega) a2 h2 b2 l (by omega) (by omega), T.int_i, dec_f (by omega)]
  congr 2; omega
theorem szRecS_loop (m : Nat) (hm : 1048606 ≤ m) : ∀ (post pre : List (List T)) (l : Int), (∀ r ∈ post, WtRow esRec r) → rowsBulk post ≤ 1048576 → (rowsSz post : Int) ≤ l → l ≤ 1048576 → pre.length + post.length ≤ 1048576 →
    ∀ n, post.length < n → ∀ k0 k1, laws_szRecS_L0_0 m n (.l (pre ++ post)) (.i l) (.i pre.length) k0 k1 = k1 (.i (l - rowsSz post))
  | [], pre, l, h, hb, hl, hl2, hs, n, hn, k0, k1 => by
    obtain ⟨n, rfl⟩ : ∃ m', n = m' + 1 := ⟨n - 1, by omega⟩
    simp only [laws_szRecS_L0_0, T.int_i, T.rows_l]
    rw [dec_f (by simp)]
    simp [rowsSz]
  | x :: post, pre, l, h, hb, hl, hl2, hs, n, hn, k0, k1 => by
    obtain ⟨n, rfl⟩ : ∃ m', n = m' + 1 := ⟨n - 1, by omega⟩
    simp only [List.length_cons] at hs hn
    simp only [rowsSz] at hl ⊢
    have ih := fun l hl hl2 => szRecS_loop m hm post (pre ++ [x]) l (fun r hr => h r (by simp [hr])) (by simp only [rowsBulk] at hb; omega) hl hl2 (by simp; omega) n (by omega) k0 k1
    have hx := h x (by simp)
    simp only [esRec, WtRow, WtT] at hx
    obtain ⟨_, _, rfl, ⟨a0, rfl, -⟩, _, _, rfl, ⟨a1, rfl, -⟩, _, _, rfl, ⟨a2, rfl, h2⟩, rfl⟩ := hx
    simp only [rowsBulk, rowBulk, tbulk] at hb
    simp only [laws_szRecS_L0_0, T.int_i, T.rows_l, ix_row, ix_nx pre (by omega), List.getD_cons_zero, List.getD_cons_succ]
    rw [dec_t (by simp; omega), dec_t (by simp; omega)]
    rw [szRec_ok (by omega) a0 a1 a2 h2 (by omega) l (by omega) hl2, T.int_i, dec_f (by omega)]
    have := ih (l - (rowSz [.i a0, .i a1, .l a2] : Nat)) (by omega) (by omega)
    simp only [List.append_assoc, List.cons_append, List.nil_append, len_snoc] at this
    refine this.trans ?_
    congr 2; omega
theorem szRecS_ok {m : Nat} (hm : 1048607 ≤ m) (rows : List (List T)) (h : ∀ r ∈ rows, WtRow esRec r) (hb : rowsBulk rows ≤ 1048576) (l : Int) (hl : ((rows.length + rowsSz rows : Nat) : Int) ≤ l) (hl2 : l ≤ 1048576) (k : T → An) : laws_szRecS m (.l rows) (.i l) k = k (.i (l - (rows.length + rowsSz rows : Nat))) := by
  obtain ⟨m, rfl⟩ : ∃ m', m = m' + 1 := ⟨m - 1, by omega⟩
  have hlen := wtRows_len (by simp) h
  simp only [laws_szRecS, T.rows_l, T.int_i]
  rw [show IntKind.i64.wrap (l - (rows.length : Int)) = l - (rows.length : Int) from wrap_i64 (by omega) (by omega), dec_f (by omega)]
  refine (szRecS_loop m (by omega) rows [] (l - rows.length) h hb (by omega) (by omega) (by simp; omega) m (by omega) _ _).trans ?_
  congr 2; omega
theorem eqRec_ok {m : Nat} (hm : 1048606 ≤ m) (a0 : Int) (a1 : Int) (a2 : List (List T)) (h2 : ∀ r ∈ a2, WtRow esOp r) (b2 : rowsBulk a2 ≤ 1048576) (k : T → An) : laws_eqRec m (.i a0) (.i a1) (.l a2) (.i a0) (.i a1) (.l a2) k = k (.b true) := by
  obtain ⟨m, rfl⟩ : ∃ m', m = m' + 1 := ⟨m - 1, by omega⟩
  simp only [laws_eqRec, T.rows_l, T.int_i, T.str_s, T.bool_b, bne_self_eq_false, beq_toList_self, beq_self_eq_true, Bool.not_true, cond_false, eqOpS_ok (m := m) (by omega) a2 h2 b2]
theorem eqRecS_loop (m : Nat) (hm : 1048606 ≤ m) : ∀ (post pre : List (List T)), (∀ r ∈ post, WtRow esRec r) → rowsBulk post ≤ 1048576 → pre.length + post.length ≤ 1048576 →
    ∀ n, post.length < n → ∀ k0 k1, laws_eqRecS_L0_0 m n (.l (pre ++ post)) (.l (pre ++ post)) (.i pre.length) k0 k1 = k1
  | [], pre, h, hb, hs, n, hn, k0, k1 => by
    obtain ⟨n, rfl⟩ : ∃ m', n = m' + 1 := ⟨n - 1, by omega⟩
    simp only [laws_eqRecS_L0_0, T.int_i, T.rows_l]
    rw [dec_f (by simp)]
  | x :: post, pre, h, hb, hs, n, hn, k0, k1 => by
    obtain ⟨n, rfl⟩ : ∃ m', n = m' + 1 := ⟨n - 1, by omega⟩
    simp only [List.length_cons] at hs hn
    have ih := eqRecS_loop m hm post (pre ++ [x]) (fun r hr => h r (by simp [hr])) (by simp only [rowsBulk] at hb; omega) (by simp; omega) n (by omega) k0 k1
    have hx := h x (by simp)
    simp only [esRec, WtRow, WtT] at hx
    obtain ⟨_, _, rfl, ⟨a0, rfl, -⟩, _, _, rfl, ⟨a1, rfl, -⟩, _, _, rfl, ⟨a2, rfl, h2⟩, rfl⟩ := hx
    simp only [rowsBulk, rowBulk, tbulk] at hb
    simp only [laws_eqRecS_L0_0, T.int_i, T.rows_l, ix_row, ix_nx pre (by omega), List.getD_cons_zero, List.getD_cons_succ]
    rw [dec_t (by simp; omega), dec_t (by simp; omega), dec_t (by simp; omega)]
    rw [eqRec_ok (by omega) a0 a1 a2 h2 (by omega)]
    simpa using ih
theorem eqRecS_ok {m : Nat} (hm : 1048607 ≤ m) (rows : List (List T)) (h : ∀ r ∈ rows, WtRow esRec r) (hb : rowsBulk rows ≤ 1048576) (k : T → An) : laws_eqRecS m (.l rows) (.l rows) k = k (.b true) := by
  obtain ⟨m, rfl⟩ : ∃ m', m = m' + 1 := ⟨m - 1, by omega⟩
  have hlen := wtRows_len (by simp) h
  simp only [laws_eqRecS, T.rows_l, T.int_i, bne_self_eq_false, cond_false]
  exact eqRecS_loop m (by omega) rows [] h hb (by simp; omega) m (by omega) _ _
abbrev esPair : List LT := [.sc .str, .sc .str]
theorem toPair_ok {m : Nat} (hm : 1048602 ≤ m) (a0 : ByteArray) (a1 : ByteArray)  (k : T → T → An) : laws_toPair m (.s a0) (.s a1) k = k (.s a0) (.s a1) := by
  obtain ⟨m, rfl⟩ : ∃ m', m = m' + 1 := ⟨m - 1, by omega⟩
  simp only [laws_toPair, T.rows_l]
theorem toPairS_loop (m : Nat) (hm : 1048602 ≤ m) : ∀ (post pre z : List (List T)), (∀ r ∈ post, WtRow esPair r) → rowsBulk post ≤ 1048576 → z.length = post.length → (∀ r ∈ z, r.length = 2) → pre.length + post.length ≤ 1048576 →
    ∀ n, post.length < n → ∀ k0, laws_toPairS_L0_0 m n (.l (pre ++ post)) (.i pre.length) (.l (pre ++ z)) k0 = k0 (.l (pre ++ post))
  | [], pre, z, h, hb, hz, hz2, hs, n, hn, k0 => by
    obtain ⟨n, rfl⟩ : ∃ m', n = m' + 1 := ⟨n - 1, by omega⟩
    obtain rfl : z = [] := List.eq_nil_of_length_eq_zero hz
    simp only [laws_toPairS_L0_0, T.int_i, T.rows_l]
    rw [dec_f (by simp)]
  | x :: post, pre, z, h, hb, hz, hz2, hs, n, hn, k0 => by
    obtain ⟨n, rfl⟩ : ∃ m', n = m' + 1 := ⟨n - 1, by omega⟩
    simp only [List.length_cons] at hs hn hz
    match z, hz, hz2 with
    | r :: z, hz, hz2 =>
    simp only [List.length_cons] at hz
    match r, hz2 r (by simp) with
    | [c0, c1], _ =>
    have ih := toPairS_loop m hm post (pre ++ [x]) z (fun r hr => h r (by simp [hr])) (by simp only [rowsBulk] at hb; omega) (by omega) (fun r hr => hz2 r (by simp [hr])) (by simp; omega) n (by omega) k0
    have hx := h x (by simp)
    simp only [esPair, WtRow, WtT] at hx
    obtain ⟨_, _, rfl, ⟨a0, rfl, -⟩, _, _, rfl, ⟨a1, rfl, -⟩, rfl⟩ := hx
    simp only [rowsBulk, rowBulk, tbulk] at hb
    simp only [laws_toPairS_L0_0, T.int_i, T.rows_l, ix_row, ix_nx pre (by omega), set_row, List.getD_cons_zero, List.getD_cons_succ, List.set_cons_zero, List.set_cons_succ]
    rw [dec_t (by simp; omega), dec_t (by simp; omega)]
    rw [toPair_ok (by omega) a0 a1, dec_t (by simp; omega), dec_t (by simp)]
    simpa using ih
theorem toPairS_ok {m : Nat} (hm : 1048603 ≤ m) (rows : List (List T)) (h : ∀ r ∈ rows, WtRow esPair r) (hb : rowsBulk rows ≤ 1048576) (k : T → An) : laws_toPairS m (.l rows) k = k (.l rows) := by
  obtain ⟨m, rfl⟩ : ∃ m', m = m' + 1 := ⟨m - 1, by omega⟩
  have hl := wtRows_len (by simp) h
  simp only [laws_toPairS, T.rows_l, T.int_i]
  rw [dec_t (by omega), dec_t (by unfold maxCells; omega)]
  exact toPairS_loop m (by omega) rows [] (List.replicate _ _) h hb (by simp) (fun r hr => by rw [List.eq_of_mem_replicate hr]; rfl) (by simp; omega) m (by omega) _
theorem szPair_ok {m : Nat} (hm : 1048602 ≤ m) (a0 : ByteArray) (a1 : ByteArray)  (l : Int) (hl : (rowSz [.s a0, .s a1] : Int) ≤ l) (hl2 : l ≤ 1048576) (k : T → An) : laws_szPair m (.s a0) (.s a1) (.i l) k = k (.i (l - (rowSz [.s a0, .s a1] : Nat))) := by
  obtain ⟨m, rfl⟩ : ∃ m', m = m' + 1 := ⟨m - 1, by omega⟩
  simp only [rowSz, tsz] at hl ⊢
  simp only [laws_szPair, T.rows_l, T.int_i, T.str_s]
  rw [show IntKind.i64.wrap (l - (a0.size : Int)) = l - (a0.size : Int) from wrap_i64 (by omega) (by omega)]
  rw [dec_f (by omega)]
  rw [show IntKind.i64.wrap ((l - (a0.size : Int)) - (a1.size : Int)) = (l - (a0.size : Int)) - (a1.size : Int) from wrap_i64 (by omega) (by omega)]
  rw [dec_f (by omega)]
  congr 2; omega
theorem szPairS_loop (m : Nat) (hm : 1048602 ≤ m) : ∀ (post pre : List (List T)) (l : Int), (∀ r ∈ post, WtRow esPair r) → rowsBulk post ≤ 1048576 → (rowsSz post : Int) ≤ l → l ≤ 1048576 → pre.length + post.length ≤ 1048576 →
    ∀ n, post.length < n → ∀ k0 k1, laws_szPairS_L0_0 m n (.l (pre ++ post)) (.i l) (.i pre.length) k0 k1 = k1 (.i (l - rowsSz post))
  | [], pre, l, h, hb, hl, hl2, hs, n, hn, k0, k1 => by
    obtain ⟨n, rfl⟩ : ∃ m', n = m' + 1 := ⟨n - 1, by omega⟩
    simp only [laws_szPairS_L0_0, T.int_i, T.rows_l]
    rw [dec_f (by simp)]
    simp [rowsSz]
  | x :: post, pre, l, h, hb, hl, hl2, hs, n, hn, k0, k1 => by
    obtain ⟨n, rfl⟩ : ∃ m', n = m' + 1 := ⟨n - 1, by omega⟩
    simp only [List.length_cons] at hs hn
    simp only [rowsSz] at hl ⊢
    have ih := fun l hl hl2 => szPairS_loop m hm post (pre ++ [x]) l (fun r hr => h r (by simp [hr])) (by simp only [rowsBulk] at hb; omega) hl hl2 (by simp; omega) n (by omega) k0 k1
    have hx := h x (by simp)
    simp only [esPair, WtRow, WtT] at hx
    obtain ⟨_, _, rfl, ⟨a0, rfl, -⟩, _, _, rfl, ⟨a1, rfl, -⟩, rfl⟩ := hx
    simp only [rowsBulk, rowBulk, tbulk] at hb
    simp only [laws_szPairS_L0_0, T.int_i, T.rows_l, ix_row, ix_nx pre (by omega), List.getD_cons_zero, List.getD_cons_succ]
    rw [dec_t (by simp; omega), dec_t (by simp; omega)]
    rw [szPair_ok (by omega) a0 a1 l (by omega) hl2, T.int_i, dec_f (by omega)]
    have := ih (l - (rowSz [.s a0, .s a1] : Nat)) (by omega) (by omega)
    simp only [List.append_assoc, List.cons_append, List.nil_append, len_snoc] at this
    refine this.trans ?_
    congr 2; omega
theorem szPairS_ok {m : Nat} (hm : 1048603 ≤ m) (rows : List (List T)) (h : ∀ r ∈ rows, WtRow esPair r) (hb : rowsBulk rows ≤ 1048576) (l : Int) (hl : ((rows.length + rowsSz rows : Nat) : Int) ≤ l) (hl2 : l ≤ 1048576) (k : T → An) : laws_szPairS m (.l rows) (.i l) k = k (.i (l - (rows.length + rowsSz rows : Nat))) := by
  obtain ⟨m, rfl⟩ : ∃ m', m = m' + 1 := ⟨m - 1, by omega⟩
  have hlen := wtRows_len (by simp) h
  simp only [laws_szPairS, T.rows_l, T.int_i]
  rw [show IntKind.i64.wrap (l - (rows.length : Int)) = l - (rows.length : Int) from wrap_i64 (by omega) (by omega), dec_f (by omega)]
  refine (szPairS_loop m (by omega) rows [] (l - rows.length) h hb (by omega) (by omega) (by simp; omega) m (by omega) _ _).trans ?_
  congr 2; omega
theorem eqPair_ok {m : Nat} (hm : 1048602 ≤ m) (a0 : ByteArray) (a1 : ByteArray)  (k : T → An) : laws_eqPair m (.s a0) (.s a1) (.s a0) (.s a1) k = k (.b true) := by
  obtain ⟨m, rfl⟩ : ∃ m', m = m' + 1 := ⟨m - 1, by omega⟩
  simp only [laws_eqPair, T.rows_l, T.int_i, T.str_s, T.bool_b, bne_self_eq_false, beq_toList_self, beq_self_eq_true, Bool.not_true, cond_false]
theorem eqPairS_loop (m : Nat) (hm : 1048602 ≤ m) : ∀ (post pre : List (List T)), (∀ r ∈ post, WtRow esPair r) → rowsBulk post ≤ 1048576 → pre.length + post.length ≤ 1048576 →
    ∀ n, post.length < n → ∀ k0 k1, laws_eqPairS_L0_0 m n (.l (pre ++ post)) (.l (pre ++ post)) (.i pre.length) k0 k1 = k1
  | [], pre, h, hb, hs, n, hn, k0, k1 => by
    obtain ⟨n, rfl⟩ : ∃ m', n = m' + 1 := ⟨n - 1, by omega⟩
    simp only [laws_eqPairS_L0_0, T.int_i, T.rows_l]
    rw [dec_f (by simp)]
  | x :: post, pre, h, hb, hs, n, hn, k0, k1 => by
    obtain ⟨n, rfl⟩ : ∃ m', n = m' + 1 := ⟨n - 1, by omega⟩
    simp only [List.length_cons] at hs hn
    have ih := eqPairS_loop m hm post (pre ++ [x]) (fun r hr => h r (by simp [hr])) (by simp only [rowsBulk] at hb; omega) (by simp; omega) n (by omega) k0 k1
    have hx := h x (by simp)
    simp only [esPair, WtRow, WtT] at hx
    obtain ⟨_, _, rfl, ⟨a0, rfl, -⟩, _, _, rfl, ⟨a1, rfl, -⟩, rfl⟩ := hx
    simp only [rowsBulk, rowBulk, tbulk] at hb
    simp only [laws_eqPairS_L0_0, T.int_i, T.rows_l, ix_row, ix_nx pre (by omega), List.getD_cons_zero, List.getD_cons_succ]
    rw [dec_t (by simp; omega), dec_t (by simp; omega), dec_t (by simp; omega)]
    rw [eqPair_ok (by omega) a0 a1]
    simpa using ih
theorem eqPairS_ok {m : Nat} (hm : 1048603 ≤ m) (rows : List (List T)) (h : ∀ r ∈ rows, WtRow esPair r) (hb : rowsBulk rows ≤ 1048576) (k : T → An) : laws_eqPairS m (.l rows) (.l rows) k = k (.b true) := by
  obtain ⟨m, rfl⟩ : ∃ m', m = m' + 1 := ⟨m - 1, by omega⟩
  have hlen := wtRows_len (by simp) h
  simp only [laws_eqPairS, T.rows_l, T.int_i, bne_self_eq_false, cond_false]
  exact eqPairS_loop m (by omega) rows [] h hb (by simp; omega) m (by omega) _ _
abbrev esShard : List LT := [.sc (.int .i64), .sl esRec, .sc (.int .i64), .sl esPair, .sl esRec]
theorem toShard_ok {m : Nat} (hm : 1048610 ≤ m) (a0 : Int) (a1 : List (List T)) (a2 : Int) (a3 : List (List T)) (a4 : List (List T)) (h1 : ∀ r ∈ a1, WtRow esRec r) (b1 : rowsBulk a1 ≤ 1048576) (h3 : ∀ r ∈ a3, WtRow esPair r) (b3 : rowsBulk a3 ≤ 1048576) (h4 : ∀ r ∈ a4, WtRow esRec r) (b4 : rowsBulk a4 ≤ 1048576) (k : T → T → T → T → T → An) : laws_toShard m (.i a0) (.l a1) (.i a2) (.l a3) (.l a4) k = k (.i a0) (.l a1) (.i a2) (.l a3) (.l a4) := by
  obtain ⟨m, rfl⟩ : ∃ m', m = m' + 1 := ⟨m - 1, by omega⟩
  simp only [laws_toShard, T.rows_l]
  rw [toRecS_ok (by omega) a1 h1 b1]
  try simp only [T.rows_l]
  rw [toPairS_ok (by omega) a3 h3 b3]
  try simp only [T.rows_l]
  rw [toRecS_ok (by omega) a4 h4 b4]
  try simp only [T.rows_l]
theorem toShardS_loop (m : Nat) (hm : 1048610 ≤ m) : ∀ (post pre z : List (List T)), (∀ r ∈ post, WtRow esShard r) → rowsBulk post ≤ 1048576 → z.length = post.length → (∀ r ∈ z, r.length = 5) → pre.length + post.length ≤ 1048576 →
    ∀ n, post.length < n → ∀ k0, laws_toShardS_L0_0 m n (.l (pre ++ post)) (.i pre.length) (.l (pre ++ z)) k0 = k0 (.l (pre ++ post))
  | [], pre, z, h, hb, hz, hz2, hs, n, hn, k0 => by
    obtain ⟨n, rfl⟩ : ∃ m', n = m' + 1 := ⟨n - 1, by omega⟩
    obtain rfl : z = [] := List.eq_nil_of_length_eq_zero hz
    simp only [laws_toShardS_L0_0, T.int_i, T.rows_l]
    rw [dec_f (by simp)]
  | x :: post, pre, z, h, hb, hz, hz2, hs, n, hn, k0 => by
    obtain ⟨n, rfl⟩ : ∃ m', n = m' + 1 := ⟨n - 1, by omega⟩
    simp only [List.length_cons] at hs hn hz
    match z, hz, hz2 with
    | r :: z, hz, hz2 =>
    simp only [List.length_cons] at hz
    match r, hz2 r (by simp) with
    | [c0, c1, c2, c3, c4], _ =>
    have ih := toShardS_loop m hm post (pre ++ [x]) z (fun r hr => h r (by simp [hr])) (by simp only [rowsBulk] at hb; omega) (by omega) (fun r hr => hz2 r (by simp [hr])) (by simp; omega) n (by omega) k0
    have hx := h x (by simp)
    simp only [esShard, WtRow, WtT] at hx
    obtain ⟨_, _, rfl, ⟨a0, rfl, -⟩, _, _, rfl, ⟨a1, rfl, h1⟩, _, _, rfl, ⟨a2, rfl, -⟩, _, _, rfl, ⟨a3, rfl, h3⟩, _, _, rfl, ⟨a4, rfl, h4⟩, rfl⟩ := hx
    simp only [rowsBulk, rowBulk, tbulk] at hb
    simp only [laws_toShardS_L0_0, T.int_i, T.rows_l, ix_row, ix_nx pre (by omega), set_row, List.getD_cons_zero, List.getD_cons_succ, List.set_cons_zero, List.set_cons_succ]
    rw [dec_t (by simp; omega), dec_t (by simp; omega)]
    rw [toShard_ok (by omega) a0 a1 a2 a3 a4 h1 (by omega) h3 (by omega) h4 (by omega), dec_t (by simp; omega), dec_t (by simp)]
    simpa using ih
theorem toShardS_ok {m : Nat} (hm : 1048611 ≤ m) (rows : List (List T)) (h : ∀ r ∈ rows, WtRow esShard r) (hb : rowsBulk rows ≤ 1048576) (k : T → An) : laws_toShardS m (.l rows) k = k (.l rows) := by
  obtain ⟨m, rfl⟩ : ∃ m', m = m' + 1 := ⟨m - 1, by omega⟩
  have hl := wtRows_len (by simp) h
  simp only [laws_toShardS, T.rows_l, T.int_i]
  rw [dec_t (by omega), dec_t (by unfold maxCells; omega)]
  exact toShardS_loop m (by omega) rows [] (List.replicate _ _) h hb (by simp) (fun r hr => by rw [List.eq_of_mem_replicate hr]; rfl) (by simp; omega) m (by omega) _
theorem szShard_ok {m : Nat} (hm : 1048610 ≤ m) (a0 : Int) (a1 : List (List T)) (a2 : Int) (a3 : List (List T)) (a4 : List (List T)) (h1 : ∀ r ∈ a1, WtRow esRec r) (b1 : rowsBulk a1 ≤ 1048576) (h3 : ∀ r ∈ a3, WtRow esPair r) (b3 : rowsBulk a3 ≤ 1048576) (h4 : ∀ r ∈ a4, WtRow esRec r) (b4 : rowsBulk a4 ≤ 1048576) (l : Int) (hl : (rowSz [.i a0, .l a1, .i a2, .l a3, .l a4] : Int) ≤ l) (hl2 : l ≤ 1048576) (k : T → An) : laws_szShard m (.i a0) (.l a1) (.i a2) (.l a3) (.l a4) (.i l) k = k (.i (l - (rowSz [.i a0, .l a1, .i a2, .l a3, .l a4] : Nat))) := by
  obtain ⟨m, rfl⟩ : ∃ m', m = m' + 1 := ⟨m - 1, by omega⟩
  simp only [rowSz, tsz] at hl ⊢
  simp only [laws_szShard, T.rows_l, T.int_i, T.str_s]
  rw [szRecS_ok (by omega) a1 h1 b1 l (by omega) (by omega), T.int_i, dec_f (by omega)]
  rw [szPairS_ok (by omega) a3 h3 b3 (l - ((a1.length + rowsSz a1 : Nat) : Int)) (by omega) (by omega), T.int_i, dec_f (by omega)]
  rw [szRecS_ok (by omega) a4 h4 b4 ((l - ((a1.length + rowsSz a1 : Nat) : Int)) - ((a3.length + rowsSz a3 : Nat) : Int)) (by omega) (by omega), T.int_i, dec_f (by omega)]
  congr 2; omega
theorem szShardS_loop (m : Nat) (hm : 1048610 ≤ m) : ∀ (post pre : List (List T)) (l : Int), (∀ r ∈ post, WtRow esShard r) → rowsBulk post ≤ 1048576 → (rowsSz post : Int) ≤ l → l ≤ 1048576 → pre.length + post.length ≤ 1048576 →
    ∀ n, post.length < n → ∀ k0 k1, laws_szShardS_L0_0 m n (.l (pre ++ post)) (.i l) (.i pre.length) k0 k1 = k1 (.i (l - rowsSz post))
  | [], pre, l, h, hb, hl, hl2, hs, n, hn, k0, k1 => by
    obtain ⟨n, rfl⟩ : ∃ m', n = m' + 1 := ⟨n - 1, by omega⟩
    simp only [laws_szShardS_L0_0, T.int_i, T.rows_l]
    rw [dec_f (by simp)]
    simp [rowsSz]
  | x :: post, pre, l, h, hb, hl, hl2, hs, n, hn, k0, k1 => by
    obtain ⟨n, rfl⟩ : ∃ m', n = m' + 1 := ⟨n - 1, by omega⟩
    simp only [List.length_cons] at hs hn
    simp only [rowsSz] at hl ⊢
    have ih := fun l hl hl2 => szShardS_loop m hm post (pre ++ [x]) l (fun r hr => h r (by simp [hr])) (by simp only [rowsBulk] at hb; omega) hl hl2 (by simp; omega) n (by omega) k0 k1
    have hx := h x (by simp)
    simp only [esShard, WtRow, WtT] at hx
    obtain ⟨_, _, rfl, ⟨a0, rfl, -⟩, _, _, rfl, ⟨a1, rfl, h1⟩, _, _, rfl, ⟨a2, rfl, -⟩, _, _, rfl, ⟨a3, rfl, h3⟩, _, _, rfl, ⟨a4, rfl, h4⟩, rfl⟩ := hx
    simp only [rowsBulk, rowBulk, tbulk] at hb
    simp only [laws_szShardS_L0_0, T.int_i, T.rows_l, ix_row, ix_nx pre (by omega), List.getD_cons_zero, List.getD_cons_succ]
    rw [dec_t (by simp; omega), dec_t (by simp; omega)]
    rw [szShard_ok (by omega) a0 a1 a2 a3 a4 h1 (by omega) h3 (by omega) h4 (by omega) l (by omega) hl2, T.int_i, dec_f (by omega)]
    have := ih (l - (rowSz [.i a0, .l a1, .i a2, .l a3, .l a4] : Nat)) (by omega) (by omega)
    simp only [List.append_assoc, List.cons_append, List.nil_append, len_snoc] at this
    refine this.trans ?_
    congr 2; omega
theorem szShardS_ok {m : Nat} (hm : 1048611 ≤ m) (rows : List (List T)) (h : ∀ r ∈ rows, WtRow esShard r) (hb : rowsBulk rows ≤ 1048576) (l : Int) (hl : ((rows.length + rowsSz rows : Nat) : Int) ≤ l) (hl2 : l ≤ 1048576) (k : T → An) : laws_szShardS m (.l rows) (.i l) k = k (.i (l - (rows.length + rowsSz rows : Nat))) := by
  obtain ⟨m, rfl⟩ : ∃ m', m = m' + 1 := ⟨m - 1, by omega⟩
  have hlen := wtRows_len (by simp) h
  simp only [laws_szShardS, T.rows_l, T.int_i]
  rw [show IntKind.i64.wrap (l - (rows.length : Int)) = l - (rows.length : Int) from wrap_i64 (by omega) (by omega), dec_f (by omega)]
  refine (szShardS_loop m (by omega) rows [] (l - rows.length) h hb (by omega) (by omega) (by simp; omega) m (by omega) _ _).trans ?_
  congr 2; omega
theorem eqShard_ok {m : Nat} (hm : 1048610 ≤ m) (a0 : Int) (a1 : List (List T)) (a2 : Int) (a3 : List (List T)) (a4 : List (List T)) (h1 : ∀ r ∈ a1, WtRow esRec r) (b1 : rowsBulk a1 ≤ 1048576) (h3 : ∀ r ∈ a3, WtRow esPair r) (b3 : rowsBulk a3 ≤ 1048576) (h4 : ∀ r ∈ a4, WtRow esRec r) (b4 : rowsBulk a4 ≤ 1048576) (k : T → An) : laws_eqShard m (.i a0) (.l a1) (.i a2) (.l a3) (.l a4) (.i a0) (.l a1) (.i a2) (.l a3) (.l a4) k = k (.b true) := by
  obtain ⟨m, rfl⟩ : ∃ m', m = m' + 1 := ⟨m - 1, by omega⟩
  simp only [laws_eqShard, T.rows_l, T.int_i, T.str_s, T.bool_b, bne_self_eq_false, beq_toList_self, beq_self_eq_true, Bool.not_true, cond_false, eqRecS_ok (m := m) (by omega) a1 h1 b1, eqPairS_ok (m := m) (by omega) a3 h3 b3, eqRecS_ok (m := m) (by omega) a4 h4 b4]
theorem eqShardS_loop (m : Nat) (hm : 1048610 ≤ m) : ∀ (post pre : List (List T)), (∀ r ∈ post, WtRow esShard r) → rowsBulk post ≤ 1048576 → pre.length + post.length ≤ 1048576 →
    ∀ n, post.length < n → ∀ k0 k1, laws_eqShardS_L0_0 m n (.l (pre ++ post)) (.l (pre ++ post)) (.i pre.length) k0 k1 = k1
  | [], pre, h, hb, hs, n, hn, k0, k1 => by
    obtain ⟨n, rfl⟩ : ∃ m', n = m' + 1 := ⟨n - 1, by omega⟩
    simp only [laws_eqShardS_L0_0, T.int_i, T.rows_l]
    rw [dec_f (by simp)]
  | x :: post, pre, h, hb, hs, n, hn, k0, k1 => by
    obtain ⟨n, rfl⟩ : ∃ m', n = m' + 1 := ⟨n - 1, by omega⟩
    simp only [List.length_cons] at hs hn
    have ih := eqShardS_loop m hm post (pre ++ [x]) (fun r hr => h r (by simp [hr])) (by simp only [rowsBulk] at hb; omega) (by simp; omega) n (by omega) k0 k1
    have hx := h x (by simp)
    simp only [esShard, WtRow, WtT] at hx
    obtain ⟨_, _, rfl, ⟨a0, rfl, -⟩, _, _, rfl, ⟨a1, rfl, h1⟩, _, _, rfl, ⟨a2, rfl, -⟩, _, _, rfl, ⟨a3, rfl, h3⟩, _, _, rfl, ⟨a4, rfl, h4⟩, rfl⟩ := hx
    simp only [rowsBulk, rowBulk, tbulk] at hb
    simp only [laws_eqShardS_L0_0, T.int_i, T.rows_l, ix_row, ix_nx pre (by omega), List.getD_cons_zero, List.getD_cons_succ]
    rw [dec_t (by simp; omega), dec_t (by simp; omega), dec_t (by simp; omega)]
    rw [eqShard_ok (by omega) a0 a1 a2 a3 a4 h1 (by omega) h3 (by omega) h4 (by omega)]
    simpa using ih
theorem eqShardS_ok {m : Nat} (hm : 1048611 ≤ m) (rows : List (List T)) (h : ∀ r ∈ rows, WtRow esShard r) (hb : rowsBulk rows ≤ 1048576) (k : T → An) : laws_eqShardS m (.l rows) (.l rows) k = k (.b true) := by
  obtain ⟨m, rfl⟩ : ∃ m', m = m' + 1 := ⟨m - 1, by omega⟩
  have hlen := wtRows_len (by simp) h
  simp only [laws_eqShardS, T.rows_l, T.int_i, bne_self_eq_false, cond_false]
  exact eqShardS_loop m (by omega) rows [] h hb (by simp; omega) m (by omega) _ _
abbrev esWord : List LT := [.sc (.int .i64), .sc (.int .i64), .sc (.int .i64), .sl esOp, .sc .bool]
theorem toWord_ok {m : Nat} (hm : 1048606 ≤ m) (a0 : Int) (a1 : Int) (a2 : Int) (a3 : List (List T)) (a4 : Bool) (h3 : ∀ r ∈ a3, WtRow esOp r) (b3 : rowsBulk a3 ≤ 1048576) (k : T → T → T → T → T → An) : laws_toWord m (.i a0) (.i a1) (.i a2) (.l a3) (.b a4) k = k (.i a0) (.i a1) (.i a2) (.l a3) (.b a4) := by
  obtain ⟨m, rfl⟩ : ∃ m', m = m' + 1 := ⟨m - 1, by omega⟩
  simp only [laws_toWord, T.rows_l]
  rw [toOpS_ok (by omega) a3 h3 b3]
  try simp only [T.rows_l]
theorem toWordS_loop (m : Nat) (hm : 1048606 ≤ m) : ∀ (post pre z : List (List T)), (∀ r ∈ post, WtRow esWord r) → rowsBulk post ≤ 1048576 → z.length = post.length → (∀ r ∈ z, r.length = 5) → pre.length + post.length ≤ 1048576 →
    ∀ n, post.length < n → ∀ k0, laws_toWordS_L0_0 m n (.l (pre ++ post)) (.i pre.length) (.l (pre ++ z)) k0 = k0 (.l (pre ++ post))
  | [], pre, z, h, hb, hz, hz2, hs, n, hn, k0 => by
    obtain ⟨n, rfl⟩ : ∃ m', n = m' + 1 := ⟨n - 1, by omega⟩
    obtain rfl : z = [] := List.eq_nil_of_length_eq_zero hz
    simp only [laws_toWordS_L0_0, T.int_i, T.rows_l]
    rw [dec_f (by simp)]
  | x :: post, pre, z, h, hb, hz, hz2, hs, n, hn, k0 => by
    obtain ⟨n, rfl⟩ : ∃ m', n = m' + 1 := ⟨n - 1, by omega⟩
    simp only [List.length_cons] at hs hn hz
    match z, hz, hz2 with
    | r :: z, hz, hz2 =>
    simp only [List.length_cons] at hz
    match r, hz2 r (by simp) with
    | [c0, c1, c2, c3, c4], _ =>
    have ih := toWordS_loop m hm post (pre ++ [x]) z (fun r hr => h r (by simp [hr])) (by simp only [rowsBulk] at hb; omega) (by omega) (fun r hr => hz2 r (by simp [hr])) (by simp; omega) n (by omega) k0
    have hx := h x (by simp)
    simp only [esWord, WtRow, WtT] at hx
    obtain ⟨_, _, rfl, ⟨a0, rfl, -⟩, _, _, rfl, ⟨a1, rfl, -⟩, _, _, rfl, ⟨a2, rfl, -⟩, _, _, rfl, ⟨a3, rfl, h3⟩, _, _, rfl, ⟨a4, rfl⟩, rfl⟩ := hx
    simp only [rowsBulk, rowBulk, tbulk] at hb
    simp only [laws_toWordS_L0_0, T.int_i, T.rows_l, ix_row, ix_nx pre (by omega), set_row, List.getD_cons_zero, List.getD_cons_succ, List.set_cons_zero, List.set_cons_succ]
    rw [dec_t (by simp; omega), dec_t (by simp; omega)]
    rw [toWord_ok (by omega) a0 a1 a2 a3 a4 h3 (by omega), dec_t (by simp; omega), dec_t (by simp)]
    simpa using ih
theorem toWordS_ok {m : Nat} (hm : 1048607 ≤ m) (rows : List (List T)) (h : ∀ r ∈ rows, WtRow esWord r) (hb : rowsBulk rows ≤ 1048576) (k : T → An) : laws_toWordS m (.l rows) k = k (.l rows) := by
  obtain ⟨m, rfl⟩ : ∃ m', m = m' + 1 := ⟨m - 1, by omega⟩
  have hl := wtRows_len (by simp) h
  simp only [laws_toWordS, T.rows_l, T.int_i]
  rw [dec_t (by omega), dec_t (by unfold maxCells; omega)]
  exact toWordS_loop m (by omega) rows [] (List.replicate _ _) h hb (by simp) (fun r hr => by rw [List.eq_of_mem_replicate hr]; rfl) (by simp; omega) m (by omega) _
theorem szWord_ok {m : Nat} (hm : 1048606 ≤ m) (a0 : Int) (a1 : Int) (a2 : Int) (a3 : List (List T)) (a4 : Bool) (h3 : ∀ r ∈ a3, WtRow esOp r) (b3 : rowsBulk a3 ≤ 1048576) (l : Int) (hl : (rowSz [.i a0, .i a1, .i a2, .l a3, .b a4] : Int) ≤ l) (hl2 : l ≤ 1048576) (k : T → An) : laws_szWord m (.i a0) (.i a1) (.i a2) (.l a3) (.b a4) (.i l) k = k (.i (l - (rowSz [.i a0, .i a1, .i a2, .l a3, .b a4] : Nat))) := by
  obtain ⟨m, rfl⟩ : ∃ m', m = m' + 1 := ⟨m - 1, by omega⟩
  simp only [rowSz, tsz] at hl ⊢
  simp only [laws_szWord, T.rows_l, T.int_i, T.str_s]
  rw [szOpS_ok (by omega) a3 h3 b3 l (by omega) (by omega), T.int_i, dec_f (by omega)]
  congr 2; omega
theorem szWordS_loop (m : Nat) (hm : 1048606 ≤ m) : ∀ (post pre : List (List T)) (l : Int), (∀ r ∈ post, WtRow esWord r) → rowsBulk post ≤ 1048576 → (rowsSz post : Int) ≤ l → l ≤ 1048576 → pre.length + post.length ≤ 1048576 →
    ∀ n, post.length < n → ∀ k0 k1, laws_szWordS_L0_0 m n (.l (pre ++ post)) (.i l) (.i pre.length) k0 k1 = k1 (.i (l - rowsSz post))
  | [], pre, l, h, hb, hl, hl2, hs, n, hn, k0, k1 => by
    obtain ⟨n, rfl⟩ : ∃ m', n = m' + 1 := ⟨n - 1, by omega⟩
    simp only [laws_szWordS_L0_0, T.int_i, T.rows_l]
    rw [dec_f (by simp)]
    simp [rowsSz]
  | x :: post, pre, l, h, hb, hl, hl2, hs, n, hn, k0, k1 => by
    obtain ⟨n, rfl⟩ : ∃ m', n = m' + 1 := ⟨n - 1, by omega⟩
    simp only [List.length_cons] at hs hn
    simp only [rowsSz] at hl ⊢
    have ih := fun l hl hl2 => szWordS_loop m hm post (pre ++ [x]) l (fun r hr => h r (by simp [hr])) (by simp only [rowsBulk] at hb; omega) hl hl2 (by simp; omega) n (by omega) k0 k1
    have hx := h x (by simp)
    simp only [esWord, WtRow, WtT] at hx
    obtain ⟨_, _, rfl, ⟨a0, rfl, -⟩, _, _, rfl, ⟨a1, rfl, -⟩, _, _, rfl, ⟨a2, rfl, -⟩, _, _, rfl, ⟨a3, rfl, h3⟩, _, _, rfl, ⟨a4, rfl⟩, rfl⟩ := hx
    simp only [rowsBulk, rowBulk, tbulk] at hb
    simp only [laws_szWordS_L0_0, T.int_i, T.rows_l, ix_row, ix_nx pre (by omega), List.getD_cons_zero, List.getD_cons_succ]
    rw [dec_t (by simp; omega), dec_t (by simp; omega)]
    rw [szWord_ok (by omega) a0 a1 a2 a3 a4 h3 (by omega) l (by omega) hl2, T.int_i, dec_f (by omega)]
    have := ih (l - (rowSz [.i a0, .i a1, .i a2, .l a3, .b a4] : Nat)) (by omega) (by omega)
    simp only [List.append_assoc, List.cons_append, List.nil_append, len_snoc] at this
    refine this.trans ?_
    congr 2; omega
theorem szWordS_ok {m : Nat} (hm : 1048607 ≤ m) (rows : List (List T)) (h : ∀ r ∈ rows, WtRow esWord r) (hb : rowsBulk rows ≤ 1048576) (l : Int) (hl : ((rows.length + rowsSz rows : Nat) : Int) ≤ l) (hl2 : l ≤ 1048576) (k : T → An) : laws_szWordS m (.l rows) (.i l) k = k (.i (l - (rows.length + rowsSz rows : Nat))) := by
  obtain ⟨m, rfl⟩ : ∃ m', m = m' + 1 := ⟨m - 1, by omega⟩
  have hlen := wtRows_len (by simp) h
  simp only [laws_szWordS, T.rows_l, T.int_i]
  rw [show IntKind.i64.wrap (l - (rows.length : Int)) = l - (rows.length : Int) from wrap_i64 (by omega) (by omega), dec_f (by omega)]
  refine (szWordS_loop m (by omega) rows [] (l - rows.length) h hb (by omega) (by omega) (by simp; omega) m (by omega) _ _).trans ?_
  congr 2; omega
theorem eqWord_ok {m : Nat} (hm : 1048606 ≤ m) (a0 : Int) (a1 : Int) (a2 : Int) (a3 : List (List T)) (a4 : Bool) (h3 : ∀ r ∈ a3, WtRow esOp r) (b3 : rowsBulk a3 ≤ 1048576) (k : T → An) : laws_eqWord m (.i a0) (.i a1) (.i a2) (.l a3) (.b a4) (.i a0) (.i a1) (.i a2) (.l a3) (.b a4) k = k (.b true) := by
  obtain ⟨m, rfl⟩ : ∃ m', m = m' + 1 := ⟨m - 1, by omega⟩
  simp only [laws_eqWord, T.rows_l, T.int_i, T.str_s, T.bool_b, bne_self_eq_false, beq_toList_self, beq_self_eq_true, Bool.not_true, cond_false, eqOpS_ok (m := m) (by omega) a3 h3 b3]
theorem eqWordS_loop (m : Nat) (hm : 1048606 ≤ m) : ∀ (post pre : List (List T)), (∀ r ∈ post, WtRow esWord r) → rowsBulk post ≤ 1048576 → pre.length + post.length ≤ 1048576 →
    ∀ n, post.length < n → ∀ k0 k1, laws_eqWordS_L0_0 m n (.l (pre ++ post)) (.l (pre ++ post)) (.i pre.length) k0 k1 = k1
  | [], pre, h, hb, hs, n, hn, k0, k1 => by
    obtain ⟨n, rfl⟩ : ∃ m', n = m' + 1 := ⟨n - 1, by omega⟩
    simp only [laws_eqWordS_L0_0, T.int_i, T.rows_l]
    rw [dec_f (by simp)]
  | x :: post, pre, h, hb, hs, n, hn, k0, k1 => by
    obtain ⟨n, rfl⟩ : ∃ m', n = m' + 1 := ⟨n - 1, by omega⟩
    simp only [List.length_cons] at hs hn
    have ih := eqWordS_loop m hm post (pre ++ [x]) (fun r hr => h r (by simp [hr])) (by simp only [rowsBulk] at hb; omega) (by simp; omega) n (by omega) k0 k1
    have hx := h x (by simp)
    simp only [esWord, WtRow, WtT] at hx
    obtain ⟨_, _, rfl, ⟨a0, rfl, -⟩, _, _, rfl, ⟨a1, rfl, -⟩, _, _, rfl, ⟨a2, rfl, -⟩, _, _, rfl, ⟨a3, rfl, h3⟩, _, _, rfl, ⟨a4, rfl⟩, rfl⟩ := hx
    simp only [rowsBulk, rowBulk, tbulk] at hb
    simp only [laws_eqWordS_L0_0, T.int_i, T.rows_l, ix_row, ix_nx pre (by omega), List.getD_cons_zero, List.getD_cons_succ]
    rw [dec_t (by simp; omega), dec_t (by simp; omega), dec_t (by simp; omega)]
    rw [eqWord_ok (by omega) a0 a1 a2 a3 a4 h3 (by omega)]
    simpa using ih
theorem eqWordS_ok {m : Nat} (hm : 1048607 ≤ m) (rows : List (List T)) (h : ∀ r ∈ rows, WtRow esWord r) (hb : rowsBulk rows ≤ 1048576) (k : T → An) : laws_eqWordS m (.l rows) (.l rows) k = k (.b true) := by
  obtain ⟨m, rfl⟩ : ∃ m', m = m' + 1 := ⟨m - 1, by omega⟩
  have hlen := wtRows_len (by simp) h
  simp only [laws_eqWordS, T.rows_l, T.int_i, bne_self_eq_false, cond_false]
  exact eqWordS_loop m (by omega) rows [] h hb (by simp; omega) m (by omega) _ _
abbrev esOrder : List LT := [.sc (.int .i64), .sl esOp]
theorem toOrder_ok {m : Nat} (hm : 1048606 ≤ m) (a0 : Int) (a1 : List (List T)) (h1 : ∀ r ∈ a1, WtRow esOp r) (b1 : rowsBulk a1 ≤ 1048576) (k : T → T → An) : laws_toOrder m (.i a0) (.l a1) k = k (.i a0) (.l a1) := by
  obtain ⟨m, rfl⟩ : ∃ m', m = m' + 1 := ⟨m - 1, by omega⟩
  simp only [laws_toOrder, T.rows_l]
  rw [toOpS_ok (by omega) a1 h1 b1]
  try simp only [T.rows_l]
theorem toOrderS_loop (m : Nat) (hm : 1048606 ≤ m) : ∀ (post pre z : List (List T)), (∀ r ∈ post, WtRow esOrder r) → rowsBulk post ≤ 1048576 → z.length = post.length → (∀ r ∈ z, r.length = 2) → pre.length + post.length ≤ 1048576 →
    ∀ n, post.length < n → ∀ k0, laws_toOrderS_L0_0 m n (.l (pre ++ post)) (.i pre.length) (.l (pre ++ z)) k0 = k0 (.l (pre ++ post))
  | [], pre, z, h, hb, hz, hz2, hs, n, hn, k0 => by
    obtain ⟨n, rfl⟩ : ∃ m', n = m' + 1 := ⟨n - 1, by omega⟩
    obtain rfl : z = [] := List.eq_nil_of_length_eq_zero hz
    simp only [laws_toOrderS_L0_0, T.int_i, T.rows_l]
    rw [dec_f (by simp)]
  | x :: post, pre, z, h, hb, hz, hz2, hs, n, hn, k0 => by
    obtain ⟨n, rfl⟩ : ∃ m', n = m' + 1 := ⟨n - 1, by omega⟩
    simp only [List.length_cons] at hs hn hz
    match z, hz, hz2 with
    | r :: z, hz, hz2 =>
    simp only [List.length_cons] at hz
    match r, hz2 r (by simp) with
    | [c0, c1], _ =>
    have ih := toOrderS_loop m hm post (pre ++ [x]) z (fun r hr => h r (by simp [hr])) (by simp only [rowsBulk] at hb; omega) (by omega) (fun r hr => hz2 r (by simp [hr])) (by simp; omega) n (by omega) k0
    have hx := h x (by simp)
    simp only [esOrder, WtRow, WtT] at hx
    obtain ⟨_, _, rfl, ⟨a0, rfl, -⟩, _, _, rfl, ⟨a1, rfl, h1⟩, rfl⟩ := hx
    simp only [rowsBulk, rowBulk, tbulk] at hb
    simp only [laws_toOrderS_L0_0, T.int_i, T.rows_l, ix_row, ix_nx pre (by omega), set_row, List.getD_cons_zero, List.getD_cons_succ, List.set_cons_zero, List.set_cons_succ]
    rw [dec_t (by simp; omega), dec_t (by simp; omega)]
    rw [toOrder_ok (by omega) a0 a1 h1 (by omega), dec_t (by simp; omega), dec_t (by simp)]
    simpa using ih
theorem toOrderS_ok {m : Nat} (hm : 1048607 ≤ m) (rows : List (List T)) (h : ∀ r ∈ rows, WtRow esOrder r) (hb : rowsBulk rows ≤ 1048576) (k : T → An) : laws_toOrderS m (.l rows) k = k (.l rows) := by
  obtain ⟨m, rfl⟩ : ∃ m', m = m' + 1 := ⟨m - 1, by omega⟩
  have hl := wtRows_len (by simp) h
  simp only [laws_toOrderS, T.rows_l, T.int_i]
  rw [dec_t (by omega), dec_t (by unfold maxCells; omega)]
  exact toOrderS_loop m (by omega) rows [] (List.replicate _ _) h hb (by simp) (fun r hr => by rw [List.eq_of_mem_replicate hr]; rfl) (by simp; omega) m (by omega) _
theorem szOrder_ok {m : Nat} (hm : 1048606 ≤ m) (a0 : Int) (a1 : List (List T)) (h1 : ∀ r ∈ a1, WtRow esOp r) (b1 : rowsBulk a1 ≤ 1048576) (l : Int) (hl : (rowSz [.i a0, .l a1] : Int) ≤ l) (hl2 : l ≤ 1048576) (k : T → An) : laws_szOrder m (.i a0) (.l a1) (.i l) k = k (.i (l - (rowSz [.i a0, .l a1] : Nat))) := by
  obtain ⟨m, rfl⟩ : ∃ m', m = m' + 1 := ⟨m - 1, by omega⟩
  simp only [rowSz, tsz] at hl ⊢
  simp only [laws_szOrder, T.rows_l, T.int_i, T.str_s]
  rw [szOpS_ok (by omega) a1 h1 b1 l (by omega) (by omega), T.int_i, dec_f (by omega)]
  congr 2; omega
theorem szOrderS_loop (m : Nat) (hm : 1048606 ≤ m) : ∀ (post pre : List (List T)) (l : Int), (∀ r ∈ post, WtRow esOrder r) → rowsBulk post ≤ 1048576 → (rowsSz post : Int) ≤ l → l ≤ 1048576 → pre.length + post.length ≤ 1048576 →
    ∀ n, post.length < n → ∀ k0 k1, laws_szOrderS_L0_0 m n (.l (pre ++ post)) (.i l) (.i pre.length) k0 k1 = k1 (.i (l - rowsSz post))
  | [], pre, l, h, hb, hl, hl2, hs, n, hn, k0, k1 => by
    obtain ⟨n, rfl⟩ : ∃ m', n = m' + 1 := ⟨n - 1, by omega⟩
    simp only [laws_szOrderS_L0_0, T.int_i, T.rows_l]
    rw [dec_f (by simp)]
    simp [rowsSz]
  | x :: post, pre, l, h, hb, hl, hl2, hs, n, hn, k0, k1 => by
    obtain ⟨n, rfl⟩ : ∃ m', n = m' + 1 := ⟨n - 1, by omega⟩
    simp only [List.length_cons] at hs hn
    simp only [rowsSz] at hl ⊢
    have ih := fun l hl hl2 => szOrderS_loop m hm post (pre ++ [x]) l (fun r hr => h r (by simp [hr])) (by simp only [rowsBulk] at hb; omega) hl hl2 (by simp; omega) n (by omega) k0 k1
    have hx := h x (by simp)
    simp only [esOrder, WtRow, WtT] at hx
    obtain ⟨_, _, rfl, ⟨a0, rfl, -⟩, _, _, rfl, ⟨a1, rfl, h1⟩, rfl⟩ := hx
    simp only [rowsBulk, rowBulk, tbulk] at hb
    simp only [laws_szOrderS_L0_0, T.int_i, T.rows_l, ix_row, ix_nx pre (by omega), List.getD_cons_zero, List.getD_cons_succ]
    rw [dec_t (by simp; omega), dec_t (by simp; omega)]
    rw [szOrder_ok (by omega) a0 a1 h1 (by omega) l (by omega) hl2, T.int_i, dec_f (by omega)]
    have := ih (l - (rowSz [.i a0, .l a1] : Nat)) (by omega) (by omega)
    simp only [List.append_assoc, List.cons_append, List.nil_append, len_snoc] at this
    refine this.trans ?_
    congr 2; omega
theorem szOrderS_ok {m : Nat} (hm : 1048607 ≤ m) (rows : List (List T)) (h : ∀ r ∈ rows, WtRow esOrder r) (hb : rowsBulk rows ≤ 1048576) (l : Int) (hl : ((rows.length + rowsSz rows : Nat) : Int) ≤ l) (hl2 : l ≤ 1048576) (k : T → An) : laws_szOrderS m (.l rows) (.i l) k = k (.i (l - (rows.length + rowsSz rows : Nat))) := by
  obtain ⟨m, rfl⟩ : ∃ m', m = m' + 1 := ⟨m - 1, by omega⟩
  have hlen := wtRows_len (by simp) h
  simp only [laws_szOrderS, T.rows_l, T.int_i]
  rw [show IntKind.i64.wrap (l - (rows.length : Int)) = l - (rows.length : Int) from wrap_i64 (by omega) (by omega), dec_f (by omega)]
  refine (szOrderS_loop m (by omega) rows [] (l - rows.length) h hb (by omega) (by omega) (by simp; omega) m (by omega) _ _).trans ?_
  congr 2; omega
theorem eqOrder_ok {m : Nat} (hm : 1048606 ≤ m) (a0 : Int) (a1 : List (List T)) (h1 : ∀ r ∈ a1, WtRow esOp r) (b1 : rowsBulk a1 ≤ 1048576) (k : T → An) : laws_eqOrder m (.i a0) (.l a1) (.i a0) (.l a1) k = k (.b true) := by
  obtain ⟨m, rfl⟩ : ∃ m', m = m' + 1 := ⟨m - 1, by omega⟩
  simp only [laws_eqOrder, T.rows_l, T.int_i, T.str_s, T.bool_b, bne_self_eq_false, beq_toList_self, beq_self_eq_true, Bool.not_true, cond_false, eqOpS_ok (m := m) (by omega) a1 h1 b1]
theorem eqOrderS_loop (m : Nat) (hm : 1048606 ≤ m) : ∀ (post pre : List (List T)), (∀ r ∈ post, WtRow esOrder r) → rowsBulk post ≤ 1048576 → pre.length + post.length ≤ 1048576 →
    ∀ n, post.length < n → ∀ k0 k1, laws_eqOrderS_L0_0 m n (.l (pre ++ post)) (.l (pre ++ post)) (.i pre.length) k0 k1 = k1
  | [], pre, h, hb, hs, n, hn, k0, k1 => by
    obtain ⟨n, rfl⟩ : ∃ m', n = m' + 1 := ⟨n - 1, by omega⟩
    simp only [laws_eqOrderS_L0_0, T.int_i, T.rows_l]
    rw [dec_f (by simp)]
  | x :: post, pre, h, hb, hs, n, hn, k0, k1 => by
    obtain ⟨n, rfl⟩ : ∃ m', n = m' + 1 := ⟨n - 1, by omega⟩
    simp only [List.length_cons] at hs hn
    have ih := eqOrderS_loop m hm post (pre ++ [x]) (fun r hr => h r (by simp [hr])) (by simp only [rowsBulk] at hb; omega) (by simp; omega) n (by omega) k0 k1
    have hx := h x (by simp)
    simp only [esOrder, WtRow, WtT] at hx
    obtain ⟨_, _, rfl, ⟨a0, rfl, -⟩, _, _, rfl, ⟨a1, rfl, h1⟩, rfl⟩ := hx
    simp only [rowsBulk, rowBulk, tbulk] at hb
    simp only [laws_eqOrderS_L0_0, T.int_i, T.rows_l, ix_row, ix_nx pre (by omega), List.getD_cons_zero, List.getD_cons_succ]
    rw [dec_t (by simp; omega), dec_t (by simp; omega), dec_t (by simp; omega)]
    rw [eqOrder_ok (by omega) a0 a1 h1 (by omega)]
    simpa using ih
theorem eqOrderS_ok {m : Nat} (hm : 1048607 ≤ m) (rows : List (List T)) (h : ∀ r ∈ rows, WtRow esOrder r) (hb : rowsBulk rows ≤ 1048576) (k : T → An) : laws_eqOrderS m (.l rows) (.l rows) k = k (.b true) := by
  obtain ⟨m, rfl⟩ : ∃ m', m = m' + 1 := ⟨m - 1, by omega⟩
  have hlen := wtRows_len (by simp) h
  simp only [laws_eqOrderS, T.rows_l, T.int_i, bne_self_eq_false, cond_false]
  exact eqOrderS_loop m (by omega) rows [] h hb (by simp; omega) m (by omega) _ _
abbrev esWorld : List LT := [.sc (.int .i64), .sc (.int .i64), .sc (.int .i64), .sl esJob, .sl esChoice, .sc (.int .i64), .sl esShard, .sl esWord, .sl esWord, .sl esOrder]
theorem toWorld_ok {m : Nat} (hm : 1048614 ≤ m) (a0 : Int) (a1 : Int) (a2 : Int) (a3 : List (List T)) (a4 : List (List T)) (a5 : Int) (a6 : List (List T)) (a7 : List (List T)) (a8 : List (List T)) (a9 : List (List T)) (h3 : ∀ r ∈ a3, WtRow esJob r) (b3 : rowsBulk a3 ≤ 1048576) (h4 : ∀ r ∈ a4, WtRow esChoice r) (b4 : rowsBulk a4 ≤ 1048576) (h6 : ∀ r ∈ a6, WtRow esShard r) (b6 : rowsBulk a6 ≤ 1048576) (h7 : ∀ r ∈ a7, WtRow esWord r) (b7 : rowsBulk a7 ≤ 1048576) (h8 : ∀ r ∈ a8, WtRow esWord r) (b8 : rowsBulk a8 ≤ 1048576) (h9 : ∀ r ∈ a9, WtRow esOrder r) (b9 : rowsBulk a9 ≤ 1048576) (k : T → T → T → T → T → T → T → T → T → T → An) : laws_toWorld m (.i a0) (.i a1) (.i a2) (.l a3) (.l a4) (.i a5) (.l a6) (.l a7) (.l a8) (.l a9) k = k (.i a0) (.i a1) (.i a2) (.l a3) (.l a4) (.i a5) (.l a6) (.l a7) (.l a8) (.l a9) := by
  obtain ⟨m, rfl⟩ : ∃ m', m = m' + 1 := ⟨m - 1, by omega⟩
  simp only [laws_toWorld, T.rows_l]
  rw [toCoord_ok (by omega) a0 a1 a2 a3 a4 a5 h3 b3 h4 b4]
  simp only [T.rows_l]
  rw [toShardS_ok (by omega) a6 h6 b6]
  try simp only [T.rows_l]
  rw [toWordS_ok (by omega) a7 h7 b7]
  try simp only [T.rows_l]
  rw [toWordS_ok (by omega) a8 h8 b8]
  try simp only [T.rows_l]
  rw [toOrderS_ok (by omega) a9 h9 b9]
  try simp only [T.rows_l]
theorem szWorld_ok {m : Nat} (hm : 1048614 ≤ m) (a0 : Int) (a1 : Int) (a2 : Int) (a3 : List (List T)) (a4 : List (List T)) (a5 : Int) (a6 : List (List T)) (a7 : List (List T)) (a8 : List (List T)) (a9 : List (List T)) (h3 : ∀ r ∈ a3, WtRow esJob r) (b3 : rowsBulk a3 ≤ 1048576) (h4 : ∀ r ∈ a4, WtRow esChoice r) (b4 : rowsBulk a4 ≤ 1048576) (h6 : ∀ r ∈ a6, WtRow esShard r) (b6 : rowsBulk a6 ≤ 1048576) (h7 : ∀ r ∈ a7, WtRow esWord r) (b7 : rowsBulk a7 ≤ 1048576) (h8 : ∀ r ∈ a8, WtRow esWord r) (b8 : rowsBulk a8 ≤ 1048576) (h9 : ∀ r ∈ a9, WtRow esOrder r) (b9 : rowsBulk a9 ≤ 1048576) (l : Int) (hl : (rowSz [.i a0, .i a1, .i a2, .l a3, .l a4, .i a5, .l a6, .l a7, .l a8, .l a9] : Int) ≤ l) (hl2 : l ≤ 1048576) (k : T → An) : laws_szWorld m (.i a0) (.i a1) (.i a2) (.l a3) (.l a4) (.i a5) (.l a6) (.l a7) (.l a8) (.l a9) (.i l) k = k (.i (l - (rowSz [.i a0, .i a1, .i a2, .l a3, .l a4, .i a5, .l a6, .l a7, .l a8, .l a9] : Nat))) := by
  obtain ⟨m, rfl⟩ : ∃ m', m = m' + 1 := ⟨m - 1, by omega⟩
  simp only [rowSz, tsz] at hl ⊢
  simp only [laws_szWorld, T.rows_l, T.int_i, T.str_s]
  have ec : rowSz [.i a0, .i a1, .i a2, .l a3, .l a4, .i a5] = a3.length + rowsSz a3 + (a4.length + rowsSz a4) := by simp only [rowSz, tsz]; omega
  rw [szCoord_ok (by omega) a0 a1 a2 a3 a4 a5 h3 b3 h4 b4 l (by omega) (by omega), T.int_i, dec_f (by omega)]
  rw [szShardS_ok (by omega) a6 h6 b6 (l - (rowSz [.i a0, .i a1, .i a2, .l a3, .l a4, .i a5] : Nat)) (by omega) (by omega), T.int_i, dec_f (by omega)]
  rw [szWordS_ok (by omega) a7 h7 b7 ((l - (rowSz [.i a0, .i a1, .i a2, .l a3, .l a4, .i a5] : Nat)) - ((a6.length + rowsSz a6 : Nat) : Int)) (by omega) (by omega), T.int_i, dec_f (by omega)]
  rw [szWordS_ok (by omega) a8 h8 b8 (((l - (rowSz [.i a0, .i a1, .i a2, .l a3, .l a4, .i a5] : Nat)) - ((a6.length + rowsSz a6 : Nat) : Int)) - ((a7.length + rowsSz a7 : Nat) : Int)) (by omega) (by omega), T.int_i, dec_f (by omega)]
  rw [szOrderS_ok (by omega) a9 h9 b9 ((((l - (rowSz [.i a0, .i a1, .i a2, .l a3, .l a4, .i a5] : Nat)) - ((a6.length + rowsSz a6 : Nat) : Int)) - ((a7.length + rowsSz a7 : Nat) : Int)) - ((a8.length + rowsSz a8 : Nat) : Int)) (by omega) (by omega), T.int_i, dec_f (by omega)]
  congr 2; omega
theorem eqWorld_ok {m : Nat} (hm : 1048614 ≤ m) (a0 : Int) (a1 : Int) (a2 : Int) (a3 : List (List T)) (a4 : List (List T)) (a5 : Int) (a6 : List (List T)) (a7 : List (List T)) (a8 : List (List T)) (a9 : List (List T)) (h3 : ∀ r ∈ a3, WtRow esJob r) (b3 : rowsBulk a3 ≤ 1048576) (h4 : ∀ r ∈ a4, WtRow esChoice r) (b4 : rowsBulk a4 ≤ 1048576) (h6 : ∀ r ∈ a6, WtRow esShard r) (b6 : rowsBulk a6 ≤ 1048576) (h7 : ∀ r ∈ a7, WtRow esWord r) (b7 : rowsBulk a7 ≤ 1048576) (h8 : ∀ r ∈ a8, WtRow esWord r) (b8 : rowsBulk a8 ≤ 1048576) (h9 : ∀ r ∈ a9, WtRow esOrder r) (b9 : rowsBulk a9 ≤ 1048576) (k : T → An) : laws_eqWorld m (.i a0) (.i a1) (.i a2) (.l a3) (.l a4) (.i a5) (.l a6) (.l a7) (.l a8) (.l a9) (.i a0) (.i a1) (.i a2) (.l a3) (.l a4) (.i a5) (.l a6) (.l a7) (.l a8) (.l a9) k = k (.b true) := by
  obtain ⟨m, rfl⟩ : ∃ m', m = m' + 1 := ⟨m - 1, by omega⟩
  simp only [laws_eqWorld, T.rows_l, T.int_i, T.str_s, T.bool_b, bne_self_eq_false, beq_toList_self, beq_self_eq_true, Bool.not_true, cond_false, eqCoord_ok (m := m) (by omega) a0 a1 a2 a3 a4 a5 h3 b3 h4 b4, eqShardS_ok (m := m) (by omega) a6 h6 b6, eqWordS_ok (m := m) (by omega) a7 h7 b7, eqWordS_ok (m := m) (by omega) a8 h8 b8, eqOrderS_ok (m := m) (by omega) a9 h9 b9]
end Go.Proofs.Ytdmjaenknhhidaa

namespace Go.Proofs.Ytdmjaenknhhidaa
open Go Go.E Go.Proofs
/-- a mark ends, with a number of at most lim -/
def Ends (f : (T → T → An) → An) (lo lim : Nat) : Prop := ∃ (k' : Nat) (rows' : List (List T)), lo ≤ k' ∧ k' ≤ lim ∧ ∀ K, f K = K (.i k') (.l rows')
theorem Ends.of {f g : (T → T → An) → An} {lo lim lo' lim' : Nat} (e : ∀ K, f K = g K) (h : Ends g lo lim) (h1 : lo' ≤ lo) (h2 : lim ≤ lim') : Ends f lo' lim' := by
  obtain ⟨k', r, a, b, c⟩ := h
  exact ⟨k', r, Nat.le_trans h1 a, Nat.le_trans b h2, fun K => (e K).trans (c K)⟩
theorem wr1 {k : Nat} (h : k ≤ 4000000) : IntKind.i64.wrap ((k : Int) + 1) = ((k + 1 : Nat) : Int) := by
  rw [wrap_i64 (by omega) (by omega)]; omega
/-- the digits of a number, ahead of a text -/
def digs : Nat → Nat → ByteArray → ByteArray
  | 0, _, acc => acc
  | n + 1, k, acc => if k = 0 then acc else digs n (k / 10) (rowsBytes [[(T.i (IntKind.u8.wrap (IntKind.i64.wrap (48 + (Int.tmod (k : Int) 10)))))]] ++ acc)
theorem digs_size : ∀ (n k : Nat) (acc : ByteArray), (digs n k acc).size ≤ acc.size + k
  | 0, k, acc => by simp [digs]
  | n + 1, k, acc => by
    unfold digs
    split
    · omega
    · have := digs_size n (k / 10) (rowsBytes [[(T.i (IntKind.u8.wrap (IntKind.i64.wrap (48 + (Int.tmod (k : Int) 10)))))]] ++ acc)
      rw [ba_app_size] at this
      have e : (rowsBytes [[(T.i (IntKind.u8.wrap (IntKind.i64.wrap (48 + (Int.tmod (k : Int) 10)))))]]).size = 1 := rfl
      omega
theorem text_loop (m : Nat) : ∀ (n k : Nat) (acc : ByteArray), k < n → acc.size + k ≤ 4611686018427387904 → ∀ K, laws_markText_L0_0 m n (.i k) (.s acc) K = K (.s (digs n k acc))
  | 0, k, acc, h, hs, K => by omega
  | n + 1, k, acc, h, hs, K => by
    unfold digs
    simp only [laws_markText_L0_0, T.int_i, T.str_s]
    by_cases hk : k = 0
    · subst hk
      rw [dec_f (by omega), if_pos rfl]
    · have e : (rowsBytes [[(T.i (IntKind.u8.wrap (IntKind.i64.wrap (48 + (Int.tmod (k : Int) 10)))))]]).size = 1 := rfl
      rw [dec_t (by omega), dec_t (by rw [e]; omega), if_neg hk]
      have e2 : Int.tdiv (k : Int) 10 = ((k / 10 : Nat) : Int) := rfl
      rw [e2, wrap_i64 (by omega) (by omega)]
      exact text_loop m n (k / 10) _ (by omega) (by rw [ba_app_size, e]; omega) K
def mtB (m k : Nat) : ByteArray := (⟨#[109]⟩ : ByteArray) ++ digs (m - 1) k ⟨#[]⟩
theorem markText_ok {m : Nat} (hm : 1048600 ≤ m) {k : Nat} (h0 : 0 < k) (hk : k ≤ 1048590) (K : T → An) : laws_markText m (.i k) K = K (.s (mtB m k)) := by
  obtain ⟨m, rfl⟩ : ∃ m', m = m' + 1 := ⟨m - 1, by omega⟩
  have hz := digs_size m k ⟨#[]⟩
  have e0 : (⟨#[]⟩ : ByteArray).size = 0 := rfl
  have e1 : (⟨#[109]⟩ : ByteArray).size = 1 := rfl
  simp only [laws_markText, T.int_i]
  rw [dec_f (by omega), text_loop m m k _ (by omega) (by rw [e0]; omega)]
  simp only [T.str_s]
  rw [dec_t (by rw [e1]; omega)]
  rfl
theorem markOpS_loop (m : Nat) (hm : 1048602 ≤ m) : ∀ (post pre : List (List T)) (i : Int) (rows : List (List T)) (k : Nat), i = (pre.length : Int) → rows = pre ++ post → (∀ r ∈ post, WtRow esOp r) → 0 < k → k + rowsBulk post ≤ 1048577 → pre.length + post.length ≤ 1048576 →
    ∀ n, post.length < n → Ends (fun K => laws_markOpS_L0_0 m n (.i k) (.i i) (.l rows) K) k (k + rowsBulk post)
  | [], pre, i, rows, k, hi, hr, h, hk0, hb, hs, n, hn => by
    obtain ⟨n, rfl⟩ : ∃ m', n = m' + 1 := ⟨n - 1, by omega⟩
    subst hi hr
    refine ⟨k, pre ++ [], by omega, by omega, fun K => ?_⟩
    simp only [laws_markOpS_L0_0, T.int_i, T.rows_l]
    rw [dec_f (by simp)]
  | x :: post, pre, i, rows, k, hi, hr, h, hk0, hb, hs, n, hn => by
    obtain ⟨n, rfl⟩ : ∃ m', n = m' + 1 := ⟨n - 1, by omega⟩
    subst hi hr
    simp only [List.length_cons] at hs hn
    have hx := h x (by simp)
    simp only [esOp, WtRow, WtT] at hx
    obtain ⟨_, _, rfl, ⟨a0, rfl, -⟩, _, _, rfl, ⟨a1, rfl, -⟩, _, _, rfl, ⟨a2, rfl, -⟩, rfl⟩ := hx
    simp only [rowsBulk, rowBulk, tbulk] at hb ⊢
    have e : ∀ K, laws_markOpS_L0_0 m (n + 1) (.i k) (.i pre.length) (.l (pre ++ [.i a0, .s a1, .s a2] :: post)) K = laws_markOpS_L0_0 m n (.i ((k + 1 + 1 + 1 : Nat) : Int)) (.i ((pre.length : Int) + 1)) (.l (pre ++ [.i ((k : Nat) : Int), .s (mtB m (k + 1)), .s (mtB m (k + 1 + 1))] :: post)) K := fun K => by
      simp only [laws_markOpS_L0_0, T.int_i, T.rows_l, ix_row, set_row, List.getD_cons_zero, List.getD_cons_succ, List.set_cons_zero, List.set_cons_succ, List.tail_cons, List.headD_cons, ix_nx pre (by omega), wr1 (k := k) (by omega), wr1 (k := k + 1) (by omega), wr1 (k := k + 1 + 1) (by omega)]
      repeat (first | rw [dec_t (by simp <;> omega)] | (rw [markText_ok (m := m) (k := k + 1) (by omega) (by omega) (by omega)]; try simp only [T.int_i, T.rows_l, ix_row, set_row, List.getD_cons_zero, List.getD_cons_succ, List.set_cons_zero, List.set_cons_succ, List.tail_cons, List.headD_cons, ix_nx pre (by omega), wr1 (k := k) (by omega), wr1 (k := k + 1) (by omega), wr1 (k := k + 1 + 1) (by omega)]) | (rw [markText_ok (m := m) (k := k + 1 + 1) (by omega) (by omega) (by omega)]; try simp only [T.int_i, T.rows_l, ix_row, set_row, List.getD_cons_zero, List.getD_cons_succ, List.set_cons_zero, List.set_cons_succ, List.tail_cons, List.headD_cons, ix_nx pre (by omega), wr1 (k := k) (by omega), wr1 (k := k + 1) (by omega), wr1 (k := k + 1 + 1) (by omega)]))
    exact Ends.of e (markOpS_loop m hm post (pre ++ [_]) _ _ (k + 1 + 1 + 1) (len_snoc ..).symm (List.append_cons ..) (fun r hr => h r (by simp [hr])) (by omega) (by omega) (by simp; omega) n (by omega)) (by omega) (by omega)
theorem markOpS_ok {m : Nat} (hm : 1048603 ≤ m) (rows : List (List T)) (h : ∀ r ∈ rows, WtRow esOp r) (k : Nat) (hk : 0 < k) (hb : k + rowsBulk rows ≤ 1048577) : Ends (fun K => laws_markOpS m (.l rows) (.i k) K) k (k + rowsBulk rows) := by
  obtain ⟨m, rfl⟩ : ∃ m', m = m' + 1 := ⟨m - 1, by omega⟩
  have hl := wtRows_len (by simp) h
  obtain ⟨k', r', h0, h1, h2⟩ := markOpS_loop m (by omega) rows [] 0 rows k rfl rfl h hk hb (by simp; omega) m (by omega)
  refine ⟨k', r', h0, h1, fun K => ?_⟩
  simp only [laws_markOpS, T.rows_l]
  refine (h2 _).trans ?_
  rfl
theorem markIntS_loop (m : Nat) (hm : 1048602 ≤ m) : ∀ (post pre : List (List T)) (i : Int) (rows : List (List T)) (k : Nat), i = (pre.length : Int) → rows = pre ++ post → (∀ r ∈ post, WtRow esInt r) → 0 < k → k + rowsBulk post ≤ 1048577 → pre.length + post.length ≤ 1048576 →
    ∀ n, post.length < n → Ends (fun K => laws_markIntS_L0_0 m n (.i k) (.i i) (.l rows) K) k (k + rowsBulk post)
  | [], pre, i, rows, k, hi, hr, h, hk0, hb, hs, n, hn => by
    obtain ⟨n, rfl⟩ : ∃ m', n = m' + 1 := ⟨n - 1, by omega⟩
    subst hi hr
    refine ⟨k, pre ++ [], by omega, by omega, fun K => ?_⟩
    simp only [laws_markIntS_L0_0, T.int_i, T.rows_l]
    rw [dec_f (by simp)]
  | x :: post, pre, i, rows, k, hi, hr, h, hk0, hb, hs, n, hn => by
    obtain ⟨n, rfl⟩ : ∃ m', n = m' + 1 := ⟨n - 1, by omega⟩
    subst hi hr
    simp only [List.length_cons] at hs hn
    have hx := h x (by simp)
    simp only [esInt, WtRow, WtT] at hx
    obtain ⟨_, _, rfl, ⟨a0, rfl, -⟩, rfl⟩ := hx
    simp only [rowsBulk, rowBulk, tbulk] at hb ⊢
    have e : ∀ K, laws_markIntS_L0_0 m (n + 1) (.i k) (.i pre.length) (.l (pre ++ [.i a0] :: post)) K = laws_markIntS_L0_0 m n (.i ((k + 1 : Nat) : Int)) (.i ((pre.length : Int) + 1)) (.l (pre ++ [.i ((k : Nat) : Int)] :: post)) K := fun K => by
      simp only [laws_markIntS_L0_0, T.int_i, T.rows_l, ix_row, set_row, List.getD_cons_zero, List.getD_cons_succ, List.set_cons_zero, List.set_cons_succ, List.tail_cons, List.headD_cons, ix_nx pre (by omega), wr1 (k := k) (by omega)]
      repeat (first | rw [dec_t (by simp <;> omega)])
    exact Ends.of e (markIntS_loop m hm post (pre ++ [_]) _ _ (k + 1) (len_snoc ..).symm (List.append_cons ..) (fun r hr => h r (by simp [hr])) (by omega) (by omega) (by simp; omega) n (by omega)) (by omega) (by omega)
theorem markIntS_ok {m : Nat} (hm : 1048603 ≤ m) (rows : List (List T)) (h : ∀ r ∈ rows, WtRow esInt r) (k : Nat) (hk : 0 < k) (hb : k + rowsBulk rows ≤ 1048577) : Ends (fun K => laws_markIntS m (.l rows) (.i k) K) k (k + rowsBulk rows) := by
  obtain ⟨m, rfl⟩ : ∃ m', m = m' + 1 := ⟨m - 1, by omega⟩
  have hl := wtRows_len (by simp) h
  obtain ⟨k', r', h0, h1, h2⟩ := markIntS_loop m (by omega) rows [] 0 rows k rfl rfl h hk hb (by simp; omega) m (by omega)
  refine ⟨k', r', h0, h1, fun K => ?_⟩
  simp only [laws_markIntS, T.rows_l]
  refine (h2 _).trans ?_
  rfl
theorem markJobS_loop (m : Nat) (hm : 1048606 ≤ m) : ∀ (post pre : List (List T)) (i : Int) (rows : List (List T)) (k : Nat), i = (pre.length : Int) → rows = pre ++ post → (∀ r ∈ post, WtRow esJob r) → 0 < k → k + rowsBulk post ≤ 1048577 → pre.length + post.length ≤ 1048576 →
    ∀ n, post.length < n → Ends (fun K => laws_markJobS_L0_0 m n (.i k) (.i i) (.l rows) K) k (k + rowsBulk post)
  | [], pre, i, rows, k, hi, hr, h, hk0, hb, hs, n, hn => by
    obtain ⟨n, rfl⟩ : ∃ m', n = m' + 1 := ⟨n - 1, by omega⟩
    subst hi hr
    refine ⟨k, pre ++ [], by omega, by omega, fun K => ?_⟩
    simp only [laws_markJobS_L0_0, T.int_i, T.rows_l]
    rw [dec_f (by simp)]
  | x :: post, pre, i, rows, k, hi, hr, h, hk0, hb, hs, n, hn => by
    obtain ⟨n, rfl⟩ : ∃ m', n = m' + 1 := ⟨n - 1, by omega⟩
    subst hi hr
    simp only [List.length_cons] at hs hn
    have hx := h x (by simp)
    simp only [esJob, WtRow, WtT] at hx
    obtain ⟨_, _, rfl, ⟨a0, rfl, -⟩, _, _, rfl, ⟨a1, rfl, h1⟩, _, _, rfl, ⟨a2, rfl, -⟩, _, _, rfl, ⟨a3, rfl, h3⟩, rfl⟩ := hx
    simp only [rowsBulk, rowBulk, tbulk] at hb ⊢
    obtain ⟨k1, r1, hl1, hk1, e1⟩ := markOpS_ok (m := m) (by omega) a1 h1 (k + 1) (by omega) (by omega)
    replace e1 : ∀ K, laws_markOpS m (.l a1) (.i ((k + 1 : Nat) : Int)) K = K (.i k1) (.l r1) := e1
    obtain ⟨k3, r3, hl3, hk3, e3⟩ := markIntS_ok (m := m) (by omega) a3 h3 (k1 + 1) (by omega) (by omega)
    replace e3 : ∀ K, laws_markIntS m (.l a3) (.i ((k1 + 1 : Nat) : Int)) K = K (.i k3) (.l r3) := e3
    have e : ∀ K, laws_markJobS_L0_0 m (n + 1) (.i k) (.i pre.length) (.l (pre ++ [.i a0, .l a1, .i a2, .l a3] :: post)) K = laws_markJobS_L0_0 m n (.i ((k3 : Nat) : Int)) (.i ((pre.length : Int) + 1)) (.l (pre ++ [.i ((k : Nat) : Int), .l r1, .i ((k1 : Nat) : Int), .l r3] :: post)) K := fun K => by
      simp only [laws_markJobS_L0_0, T.int_i, T.rows_l, ix_row, set_row, List.getD_cons_zero, List.getD_cons_succ, List.set_cons_zero, List.set_cons_succ, List.tail_cons, List.headD_cons, ix_nx pre (by omega), wr1 (k := k) (by omega), wr1 (k := k1) (by omega)]
      repeat (first | rw [dec_t (by simp <;> omega)] | (rw [e1]; try simp only [T.int_i, T.rows_l, ix_row, set_row, List.getD_cons_zero, List.getD_cons_succ, List.set_cons_zero, List.set_cons_succ, List.tail_cons, List.headD_cons, ix_nx pre (by omega), wr1 (k := k) (by omega), wr1 (k := k1) (by omega)]) | (rw [e3]; try simp only [T.int_i, T.rows_l, ix_row, set_row, List.getD_cons_zero, List.getD_cons_succ, List.set_cons_zero, List.set_cons_succ, List.tail_cons, List.headD_cons, ix_nx pre (by omega), wr1 (k := k) (by omega), wr1 (k := k1) (by omega)]))
    exact Ends.of e (markJobS_loop m hm post (pre ++ [_]) _ _ (k3) (len_snoc ..).symm (List.append_cons ..) (fun r hr => h r (by simp [hr])) (by omega) (by omega) (by simp; omega) n (by omega)) (by omega) (by omega)
theorem markJobS_ok {m : Nat} (hm : 1048607 ≤ m) (rows : List (List T)) (h : ∀ r ∈ rows, WtRow esJob r) (k : Nat) (hk : 0 < k) (hb : k + rowsBulk rows ≤ 1048577) : Ends (fun K => laws_markJobS m (.l rows) (.i k) K) k (k + rowsBulk rows) := by
  obtain ⟨m, rfl⟩ : ∃ m', m = m' + 1 := ⟨m - 1, by omega⟩
  have hl := wtRows_len (by simp) h
  obtain ⟨k', r', h0, h1, h2⟩ := markJobS_loop m (by omega) rows [] 0 rows k rfl rfl h hk hb (by simp; omega) m (by omega)
  refine ⟨k', r', h0, h1, fun K => ?_⟩
  simp only [laws_markJobS, T.rows_l]
  refine (h2 _).trans ?_
  rfl
theorem markChoiceS_loop (m : Nat) (hm : 1048602 ≤ m) : ∀ (post pre : List (List T)) (i : Int) (rows : List (List T)) (k : Nat), i = (pre.length : Int) → rows = pre ++ post → (∀ r ∈ post, WtRow esChoice r) → 0 < k → k + rowsBulk post ≤ 1048577 → pre.length + post.length ≤ 1048576 →
    ∀ n, post.length < n → Ends (fun K => laws_markChoiceS_L0_0 m n (.i k) (.i i) (.l rows) K) k (k + rowsBulk post)
  | [], pre, i, rows, k, hi, hr, h, hk0, hb, hs, n, hn => by
    obtain ⟨n, rfl⟩ : ∃ m', n = m' + 1 := ⟨n - 1, by omega⟩
    subst hi hr
    refine ⟨k, pre ++ [], by omega, by omega, fun K => ?_⟩
    simp only [laws_markChoiceS_L0_0, T.int_i, T.rows_l]
    rw [dec_f (by simp)]
  | x :: post, pre, i, rows, k, hi, hr, h, hk0, hb, hs, n, hn => by
    obtain ⟨n, rfl⟩ : ∃ m', n = m' + 1 := ⟨n - 1, by omega⟩
    subst hi hr
    simp only [List.length_cons] at hs hn
    have hx := h x (by simp)
    simp only [esChoice, WtRow, WtT] at hx
    obtain ⟨_, _, rfl, ⟨a0, rfl, -⟩, _, _, rfl, ⟨a1, rfl⟩, rfl⟩ := hx
    simp only [rowsBulk, rowBulk, tbulk] at hb ⊢
    have e : ∀ K, laws_markChoiceS_L0_0 m (n + 1) (.i k) (.i pre.length) (.l (pre ++ [.i a0, .b a1] :: post)) K = laws_markChoiceS_L0_0 m n (.i ((k + 1 + 1 : Nat) : Int)) (.i ((pre.length : Int) + 1)) (.l (pre ++ [.i ((k : Nat) : Int), .b (Int.tmod ((k + 1 : Nat) : Int) 3 == 0)] :: post)) K := fun K => by
      simp only [laws_markChoiceS_L0_0, T.int_i, T.rows_l, ix_row, set_row, List.getD_cons_zero, List.getD_cons_succ, List.set_cons_zero, List.set_cons_succ, List.tail_cons, List.headD_cons, ix_nx pre (by omega), wr1 (k := k) (by omega), wr1 (k := k + 1) (by omega)]
      repeat (first | rw [dec_t (by simp <;> omega)])
    exact Ends.of e (markChoiceS_loop m hm post (pre ++ [_]) _ _ (k + 1 + 1) (len_snoc ..).symm (List.append_cons ..) (fun r hr => h r (by simp [hr])) (by omega) (by omega) (by simp; omega) n (by omega)) (by omega) (by omega)
theorem markChoiceS_ok {m : Nat} (hm : 1048603 ≤ m) (rows : List (List T)) (h : ∀ r ∈ rows, WtRow esChoice r) (k : Nat) (hk : 0 < k) (hb : k + rowsBulk rows ≤ 1048577) : Ends (fun K => laws_markChoiceS m (.l rows) (.i k) K) k (k + rowsBulk rows) := by
  obtain ⟨m, rfl⟩ : ∃ m', m = m' + 1 := ⟨m - 1, by omega⟩
  have hl := wtRows_len (by simp) h
  obtain ⟨k', r', h0, h1, h2⟩ := markChoiceS_loop m (by omega) rows [] 0 rows k rfl rfl h hk hb (by simp; omega) m (by omega)
  refine ⟨k', r', h0, h1, fun K => ?_⟩
  simp only [laws_markChoiceS, T.rows_l]
  refine (h2 _).trans ?_
  rfl
theorem markRecS_loop (m : Nat) (hm : 1048606 ≤ m) : ∀ (post pre : List (List T)) (i : Int) (rows : List (List T)) (k : Nat), i = (pre.length : Int) → rows = pre ++ post → (∀ r ∈ post, WtRow esRec r) → 0 < k → k + rowsBulk post ≤ 1048577 → pre.length + post.length ≤ 1048576 →
    ∀ n, post.length < n → Ends (fun K => laws_markRecS_L0_0 m n (.i k) (.i i) (.l rows) K) k (k + rowsBulk post)
  | [], pre, i, rows, k, hi, hr, h, hk0, hb, hs, n, hn => by
    obtain ⟨n, rfl⟩ : ∃ m', n = m' + 1 := ⟨n - 1, by omega⟩
    subst hi hr
    refine ⟨k, pre ++ [], by omega, by omega, fun K => ?_⟩
    simp only [laws_markRecS_L0_0, T.int_i, T.rows_l]
    rw [dec_f (by simp)]
  | x :: post, pre, i, rows, k, hi, hr, h, hk0, hb, hs, n, hn => by
    obtain ⟨n, rfl⟩ : ∃ m', n = m' + 1 := ⟨n - 1, by omega⟩
    subst hi hr
    simp only [List.length_cons] at hs hn
    have hx := h x (by simp)
    simp only [esRec, WtRow, WtT] at hx
    obtain ⟨_, _, rfl, ⟨a0, rfl, -⟩, _, _, rfl, ⟨a1, rfl, -⟩, _, _, rfl, ⟨a2, rfl, h2⟩, rfl⟩ := hx
    simp only [rowsBulk, rowBulk, tbulk] at hb ⊢
    obtain ⟨k2, r2, hl2, hk2, e2⟩ := markOpS_ok (m := m) (by omega) a2 h2 (k + 1 + 1) (by omega) (by omega)
    replace e2 : ∀ K, laws_markOpS m (.l a2) (.i ((k + 1 + 1 : Nat) : Int)) K = K (.i k2) (.l r2) := e2
    have e : ∀ K, laws_markRecS_L0_0 m (n + 1) (.i k) (.i pre.length) (.l (pre ++ [.i a0, .i a1, .l a2] :: post)) K = laws_markRecS_L0_0 m n (.i ((k2 : Nat) : Int)) (.i ((pre.length : Int) + 1)) (.l (pre ++ [.i ((k : Nat) : Int), .i ((k + 1 : Nat) : Int), .l r2] :: post)) K := fun K => by
      simp only [laws_markRecS_L0_0, T.int_i, T.rows_l, ix_row, set_row, List.getD_cons_zero, List.getD_cons_succ, List.set_cons_zero, List.set_cons_succ, List.tail_cons, List.headD_cons, ix_nx pre (by omega), wr1 (k := k) (by omega), wr1 (k := k + 1) (by omega)]
      repeat (first | rw [dec_t (by simp <;> omega)] | (rw [e2]; try simp only [T.int_i, T.rows_l, ix_row, set_row, List.getD_cons_zero, List.getD_cons_succ, List.set_cons_zero, List.set_cons_succ, List.tail_cons, List.headD_cons, ix_nx pre (by omega), wr1 (k := k) (by omega), wr1 (k := k + 1) (by omega)]))
    exact Ends.of e (markRecS_loop m hm post (pre ++ [_]) _ _ (k2) (len_snoc ..).symm (List.append_cons ..) (fun r hr => h r (by simp [hr])) (by omega) (by omega) (by simp; omega) n (by omega)) (by omega) (by omega)
theorem markRecS_ok {m : Nat} (hm : 1048607 ≤ m) (rows : List (List T)) (h : ∀ r ∈ rows, WtRow esRec r) (k : Nat) (hk : 0 < k) (hb : k + rowsBulk rows ≤ 1048577) : Ends (fun K => laws_markRecS m (.l rows) (.i k) K) k (k + rowsBulk rows) := by
  obtain ⟨m, rfl⟩ : ∃ m', m = m' + 1 := ⟨m - 1, by omega⟩
  have hl := wtRows_len (by simp) h
  obtain ⟨k', r', h0, h1, h2⟩ := markRecS_loop m (by omega) rows [] 0 rows k rfl rfl h hk hb (by simp; omega) m (by omega)
  refine ⟨k', r', h0, h1, fun K => ?_⟩
  simp only [laws_markRecS, T.rows_l]
  refine (h2 _).trans ?_
  rfl
theorem markPairS_loop (m : Nat) (hm : 1048602 ≤ m) : ∀ (post pre : List (List T)) (i : Int) (rows : List (List T)) (k : Nat), i = (pre.length : Int) → rows = pre ++ post → (∀ r ∈ post, WtRow esPair r) → 0 < k → k + rowsBulk post ≤ 1048577 → pre.length + post.length ≤ 1048576 →
    ∀ n, post.length < n → Ends (fun K => laws_markPairS_L0_0 m n (.i k) (.i i) (.l rows) K) k (k + rowsBulk post)
  | [], pre, i, rows, k, hi, hr, h, hk0, hb, hs, n, hn => by
    obtain ⟨n, rfl⟩ : ∃ m', n = m' + 1 := ⟨n - 1, by omega⟩
    subst hi hr
    refine ⟨k, pre ++ [], by omega, by omega, fun K => ?_⟩
    simp only [laws_markPairS_L0_0, T.int_i, T.rows_l]
    rw [dec_f (by simp)]
  | x :: post, pre, i, rows, k, hi, hr, h, hk0, hb, hs, n, hn => by
    obtain ⟨n, rfl⟩ : ∃ m', n = m' + 1 := ⟨n - 1, by omega⟩
    subst hi hr
    simp only [List.length_cons] at hs hn
    have hx := h x (by simp)
    simp only [esPair, WtRow, WtT] at hx
    obtain ⟨_, _, rfl, ⟨a0, rfl, -⟩, _, _, rfl, ⟨a1, rfl, -⟩, rfl⟩ := hx
    simp only [rowsBulk, rowBulk, tbulk] at hb ⊢
    have e : ∀ K, laws_markPairS_L0_0 m (n + 1) (.i k) (.i pre.length) (.l (pre ++ [.s a0, .s a1] :: post)) K = laws_markPairS_L0_0 m n (.i ((k + 1 + 1 : Nat) : Int)) (.i ((pre.length : Int) + 1)) (.l (pre ++ [.s (mtB m (k)), .s (mtB m (k + 1))] :: post)) K := fun K => by
      simp only [laws_markPairS_L0_0, T.int_i, T.rows_l, ix_row, set_row, List.getD_cons_zero, List.getD_cons_succ, List.set_cons_zero, List.set_cons_succ, List.tail_cons, List.headD_cons, ix_nx pre (by omega), wr1 (k := k) (by omega), wr1 (k := k + 1) (by omega)]
      repeat (first | rw [dec_t (by simp <;> omega)] | (rw [markText_ok (m := m) (k := k) (by omega) (by omega) (by omega)]; try simp only [T.int_i, T.rows_l, ix_row, set_row, List.getD_cons_zero, List.getD_cons_succ, List.set_cons_zero, List.set_cons_succ, List.tail_cons, List.headD_cons, ix_nx pre (by omega), wr1 (k := k) (by omega), wr1 (k := k + 1) (by omega)]) | (rw [markText_ok (m := m) (k := k + 1) (by omega) (by omega) (by omega)]; try simp only [T.int_i, T.rows_l, ix_row, set_row, List.getD_cons_zero, List.getD_cons_succ, List.set_cons_zero, List.set_cons_succ, List.tail_cons, List.headD_cons, ix_nx pre (by omega), wr1 (k := k) (by omega), wr1 (k := k + 1) (by omega)]))
    exact Ends.of e (markPairS_loop m hm post (pre ++ [_]) _ _ (k + 1 + 1) (len_snoc ..).symm (List.append_cons ..) (fun r hr => h r (by simp [hr])) (by omega) (by omega) (by simp; omega) n (by omega)) (by omega) (by omega)
theorem markPairS_ok {m : Nat} (hm : 1048603 ≤ m) (rows : List (List T)) (h : ∀ r ∈ rows, WtRow esPair r) (k : Nat) (hk : 0 < k) (hb : k + rowsBulk rows ≤ 1048577) : Ends (fun K => laws_markPairS m (.l rows) (.i k) K) k (k + rowsBulk rows) := by
  obtain ⟨m, rfl⟩ : ∃ m', m = m' + 1 := ⟨m - 1, by omega⟩
  have hl := wtRows_len (by simp) h
  obtain ⟨k', r', h0, h1, h2⟩ := markPairS_loop m (by omega) rows [] 0 rows k rfl rfl h hk hb (by simp; omega) m (by omega)
  refine ⟨k', r', h0, h1, fun K => ?_⟩
  simp only [laws_markPairS, T.rows_l]
  refine (h2 _).trans ?_
  rfl
theorem markShardS_loop (m : Nat) (hm : 1048610 ≤ m) : ∀ (post pre : List (List T)) (i : Int) (rows : List (List T)) (k : Nat), i = (pre.length : Int) → rows = pre ++ post → (∀ r ∈ post, WtRow esShard r) → 0 < k → k + rowsBulk post ≤ 1048577 → pre.length + post.length ≤ 1048576 →
    ∀ n, post.length < n → Ends (fun K => laws_markShardS_L0_0 m n (.i k) (.i i) (.l rows) K) k (k + rowsBulk post)
  | [], pre, i, rows, k, hi, hr, h, hk0, hb, hs, n, hn => by
    obtain ⟨n, rfl⟩ : ∃ m', n = m' + 1 := ⟨n - 1, by omega⟩
    subst hi hr
    refine ⟨k, pre ++ [], by omega, by omega, fun K => ?_⟩
    simp only [laws_markShardS_L0_0, T.int_i, T.rows_l]
    rw [dec_f (by simp)]
  | x :: post, pre, i, rows, k, hi, hr, h, hk0, hb, hs, n, hn => by
    obtain ⟨n, rfl⟩ : ∃ m', n = m' + 1 := ⟨n - 1, by omega⟩
    subst hi hr
    simp only [List.length_cons] at hs hn
    have hx := h x (by simp)
    simp only [esShard, WtRow, WtT] at hx
    obtain ⟨_, _, rfl, ⟨a0, rfl, -⟩, _, _, rfl, ⟨a1, rfl, h1⟩, _, _, rfl, ⟨a2, rfl, -⟩, _, _, rfl, ⟨a3, rfl, h3⟩, _, _, rfl, ⟨a4, rfl, h4⟩, rfl⟩ := hx
    simp only [rowsBulk, rowBulk, tbulk] at hb ⊢
    obtain ⟨k1, r1, hl1, hk1, e1⟩ := markRecS_ok (m := m) (by omega) a1 h1 (k + 1) (by omega) (by omega)
    replace e1 : ∀ K, laws_markRecS m (.l a1) (.i ((k + 1 : Nat) : Int)) K = K (.i k1) (.l r1) := e1
    obtain ⟨k3, r3, hl3, hk3, e3⟩ := markPairS_ok (m := m) (by omega) a3 h3 (k1 + 1) (by omega) (by omega)
    replace e3 : ∀ K, laws_markPairS m (.l a3) (.i ((k1 + 1 : Nat) : Int)) K = K (.i k3) (.l r3) := e3
    obtain ⟨k4, r4, hl4, hk4, e4⟩ := markRecS_ok (m := m) (by omega) a4 h4 (k3) (by omega) (by omega)
    replace e4 : ∀ K, laws_markRecS m (.l a4) (.i ((k3 : Nat) : Int)) K = K (.i k4) (.l r4) := e4
    have e : ∀ K, laws_markShardS_L0_0 m (n + 1) (.i k) (.i pre.length) (.l (pre ++ [.i a0, .l a1, .i a2, .l a3, .l a4] :: post)) K = laws_markShardS_L0_0 m n (.i ((k4 : Nat) : Int)) (.i ((pre.length : Int) + 1)) (.l (pre ++ [.i ((k : Nat) : Int), .l r1, .i ((k1 : Nat) : Int), .l r3, .l r4] :: post)) K := fun K => by
      simp only [laws_markShardS_L0_0, T.int_i, T.rows_l, ix_row, set_row, List.getD_cons_zero, List.getD_cons_succ, List.set_cons_zero, List.set_cons_succ, List.tail_cons, List.headD_cons, ix_nx pre (by omega), wr1 (k := k) (by omega), wr1 (k := k1) (by omega)]
      repeat (first | rw [dec_t (by simp <;> omega)] | (rw [e1]; try simp only [T.int_i, T.rows_l, ix_row, set_row, List.getD_cons_zero, List.getD_cons_succ, List.set_cons_zero, List.set_cons_succ, List.tail_cons, List.headD_cons, ix_nx pre (by omega), wr1 (k := k) (by omega), wr1 (k := k1) (by omega)]) | (rw [e3]; try simp only [T.int_i, T.rows_l, ix_row, set_row, List.getD_cons_zero, List.getD_cons_succ, List.set_cons_zero, List.set_cons_succ, List.tail_cons, List.headD_cons, ix_nx pre (by omega), wr1 (k := k) (by omega), wr1 (k := k1) (by omega)]) | (rw [e4]; try simp only [T.int_i, T.rows_l, ix_row, set_row, List.getD_cons_zero, List.getD_cons_succ, List.set_cons_zero, List.set_cons_succ, List.tail_cons, List.headD_cons, ix_nx pre (by omega), wr1 (k := k) (by omega), wr1 (k := k1) (by omega)]))
    exact Ends.of e (markShardS_loop m hm post (pre ++ [_]) _ _ (k4) (len_snoc ..).symm (List.append_cons ..) (fun r hr => h r (by simp [hr])) (by omega) (by omega) (by simp; omega) n (by omega)) (by omega) (by omega)
theorem markShardS_ok {m : Nat} (hm : 1048611 ≤ m) (rows : List (List T)) (h : ∀ r ∈ rows, WtRow esShard r) (k : Nat) (hk : 0 < k) (hb : k + rowsBulk rows ≤ 1048577) : Ends (fun K => laws_markShardS m (.l rows) (.i k) K) k (k + rowsBulk rows) := by
  obtain ⟨m, rfl⟩ : ∃ m', m = m' + 1 := ⟨m - 1, by omega⟩
  have hl := wtRows_len (by simp) h
  obtain ⟨k', r', h0, h1, h2⟩ := markShardS_loop m (by omega) rows [] 0 rows k rfl rfl h hk hb (by simp; omega) m (by omega)
  refine ⟨k', r', h0, h1, fun K => ?_⟩
  simp only [laws_markShardS, T.rows_l]
  refine (h2 _).trans ?_
  rfl
theorem markWordS_loop (m : Nat) (hm : 1048606 ≤ m) : ∀ (post pre : List (List T)) (i : Int) (rows : List (List T)) (k : Nat), i = (pre.length : Int) → rows = pre ++ post → (∀ r ∈ post, WtRow esWord r) → 0 < k → k + rowsBulk post ≤ 1048577 → pre.length + post.length ≤ 1048576 →
    ∀ n, post.length < n → Ends (fun K => laws_markWordS_L0_0 m n (.i k) (.i i) (.l rows) K) k (k + rowsBulk post)
  | [], pre, i, rows, k, hi, hr, h, hk0, hb, hs, n, hn => by
    obtain ⟨n, rfl⟩ : ∃ m', n = m' + 1 := ⟨n - 1, by omega⟩
    subst hi hr
    refine ⟨k, pre ++ [], by omega, by omega, fun K => ?_⟩
    simp only [laws_markWordS_L0_0, T.int_i, T.rows_l]
    rw [dec_f (by simp)]
  | x :: post, pre, i, rows, k, hi, hr, h, hk0, hb, hs, n, hn => by
    obtain ⟨n, rfl⟩ : ∃ m', n = m' + 1 := ⟨n - 1, by omega⟩
    subst hi hr
    simp only [List.length_cons] at hs hn
    have hx := h x (by simp)
    simp only [esWord, WtRow, WtT] at hx
    obtain ⟨_, _, rfl, ⟨a0, rfl, -⟩, _, _, rfl, ⟨a1, rfl, -⟩, _, _, rfl, ⟨a2, rfl, -⟩, _, _, rfl, ⟨a3, rfl, h3⟩, _, _, rfl, ⟨a4, rfl⟩, rfl⟩ := hx
    simp only [rowsBulk, rowBulk, tbulk] at hb ⊢
    obtain ⟨k3, r3, hl3, hk3, e3⟩ := markOpS_ok (m := m) (by omega) a3 h3 (k + 1 + 1 + 1) (by omega) (by omega)
    replace e3 : ∀ K, laws_markOpS m (.l a3) (.i ((k + 1 + 1 + 1 : Nat) : Int)) K = K (.i k3) (.l r3) := e3
    have e : ∀ K, laws_markWordS_L0_0 m (n + 1) (.i k) (.i pre.length) (.l (pre ++ [.i a0, .i a1, .i a2, .l a3, .b a4] :: post)) K = laws_markWordS_L0_0 m n (.i ((k3 + 1 : Nat) : Int)) (.i ((pre.length : Int) + 1)) (.l (pre ++ [.i ((k : Nat) : Int), .i ((k + 1 : Nat) : Int), .i ((k + 1 + 1 : Nat) : Int), .l r3, .b (Int.tmod ((k3 : Nat) : Int) 3 == 0)] :: post)) K := fun K => by
      simp only [laws_markWordS_L0_0, T.int_i, T.rows_l, ix_row, set_row, List.getD_cons_zero, List.getD_cons_succ, List.set_cons_zero, List.set_cons_succ, List.tail_cons, List.headD_cons, ix_nx pre (by omega), wr1 (k := k) (by omega), wr1 (k := k + 1) (by omega), wr1 (k := k + 1 + 1) (by omega), wr1 (k := k3) (by omega)]
      repeat (first | rw [dec_t (by simp <;> omega)] | (rw [e3]; try simp only [T.int_i, T.rows_l, ix_row, set_row, List.getD_cons_zero, List.getD_cons_succ, List.set_cons_zero, List.set_cons_succ, List.tail_cons, List.headD_cons, ix_nx pre (by omega), wr1 (k := k) (by omega), wr1 (k := k + 1) (by omega), wr1 (k := k + 1 + 1) (by omega), wr1 (k := k3) (by omega)]))
    exact Ends.of e (markWordS_loop m hm post (pre ++ [_]) _ _ (k3 + 1) (len_snoc ..).symm (List.append_cons ..) (fun r hr => h r (by simp [hr])) (by omega) (by omega) (by simp; omega) n (by omega)) (by omega) (by omega)
theorem markWordS_ok {m : Nat} (hm : 1048607 ≤ m) (rows : List (List T)) (h : ∀ r ∈ rows, WtRow esWord r) (k : Nat) (hk : 0 < k) (hb : k + rowsBulk rows ≤ 1048577) : Ends (fun K => laws_markWordS m (.l rows) (.i k) K) k (k + rowsBulk rows) := by
  obtain ⟨m, rfl⟩ : ∃ m', m = m' + 1 := ⟨m - 1, by omega⟩
  have hl := wtRows_len (by simp) h
  obtain ⟨k', r', h0, h1, h2⟩ := markWordS_loop m (by omega) rows [] 0 rows k rfl rfl h hk hb (by simp; omega) m (by omega)
  refine ⟨k', r', h0, h1, fun K => ?_⟩
  simp only [laws_markWordS, T.rows_l]
  refine (h2 _).trans ?_
  rfl
theorem markOrderS_loop (m : Nat) (hm : 1048606 ≤ m) : ∀ (post pre : List (List T)) (i : Int) (rows : List (List T)) (k : Nat), i = (pre.length : Int) → rows = pre ++ post → (∀ r ∈ post, WtRow esOrder r) → 0 < k → k + rowsBulk post ≤ 1048577 → pre.length + post.length ≤ 1048576 →
    ∀ n, post.length < n → Ends (fun K => laws_markOrderS_L0_0 m n (.i k) (.i i) (.l rows) K) k (k + rowsBulk post)
  | [], pre, i, rows, k, hi, hr, h, hk0, hb, hs, n, hn => by
    obtain ⟨n, rfl⟩ : ∃ m', n = m' + 1 := ⟨n - 1, by omega⟩
    subst hi hr
    refine ⟨k, pre ++ [], by omega, by omega, fun K => ?_⟩
    simp only [laws_markOrderS_L0_0, T.int_i, T.rows_l]
    rw [dec_f (by simp)]
  | x :: post, pre, i, rows, k, hi, hr, h, hk0, hb, hs, n, hn => by
    obtain ⟨n, rfl⟩ : ∃ m', n = m' + 1 := ⟨n - 1, by omega⟩
    subst hi hr
    simp only [List.length_cons] at hs hn
    have hx := h x (by simp)
    simp only [esOrder, WtRow, WtT] at hx
    obtain ⟨_, _, rfl, ⟨a0, rfl, -⟩, _, _, rfl, ⟨a1, rfl, h1⟩, rfl⟩ := hx
    simp only [rowsBulk, rowBulk, tbulk] at hb ⊢
    obtain ⟨k1, r1, hl1, hk1, e1⟩ := markOpS_ok (m := m) (by omega) a1 h1 (k + 1) (by omega) (by omega)
    replace e1 : ∀ K, laws_markOpS m (.l a1) (.i ((k + 1 : Nat) : Int)) K = K (.i k1) (.l r1) := e1
    have e : ∀ K, laws_markOrderS_L0_0 m (n + 1) (.i k) (.i pre.length) (.l (pre ++ [.i a0, .l a1] :: post)) K = laws_markOrderS_L0_0 m n (.i ((k1 : Nat) : Int)) (.i ((pre.length : Int) + 1)) (.l (pre ++ [.i ((k : Nat) : Int), .l r1] :: post)) K := fun K => by
      simp only [laws_markOrderS_L0_0, T.int_i, T.rows_l, ix_row, set_row, List.getD_cons_zero, List.getD_cons_succ, List.set_cons_zero, List.set_cons_succ, List.tail_cons, List.headD_cons, ix_nx pre (by omega), wr1 (k := k) (by omega)]
      repeat (first | rw [dec_t (by simp <;> omega)] | (rw [e1]; try simp only [T.int_i, T.rows_l, ix_row, set_row, List.getD_cons_zero, List.getD_cons_succ, List.set_cons_zero, List.set_cons_succ, List.tail_cons, List.headD_cons, ix_nx pre (by omega), wr1 (k := k) (by omega)]))
    exact Ends.of e (markOrderS_loop m hm post (pre ++ [_]) _ _ (k1) (len_snoc ..).symm (List.append_cons ..) (fun r hr => h r (by simp [hr])) (by omega) (by omega) (by simp; omega) n (by omega)) (by omega) (by omega)
theorem markOrderS_ok {m : Nat} (hm : 1048607 ≤ m) (rows : List (List T)) (h : ∀ r ∈ rows, WtRow esOrder r) (k : Nat) (hk : 0 < k) (hb : k + rowsBulk rows ≤ 1048577) : Ends (fun K => laws_markOrderS m (.l rows) (.i k) K) k (k + rowsBulk rows) := by
  obtain ⟨m, rfl⟩ : ∃ m', m = m' + 1 := ⟨m - 1, by omega⟩
  have hl := wtRows_len (by simp) h
  obtain ⟨k', r', h0, h1, h2⟩ := markOrderS_loop m (by omega) rows [] 0 rows k rfl rfl h hk hb (by simp; omega) m (by omega)
  refine ⟨k', r', h0, h1, fun K => ?_⟩
  simp only [laws_markOrderS, T.rows_l]
  refine (h2 _).trans ?_
  rfl
end Go.Proofs.Ytdmjaenknhhidaa

namespace Go.Proofs.Ytdmjaenknhhidaa
open Go Go.E Go.Proofs
theorem drop1_getD (r : List T) : (r.drop 1).getD 0 dflt = r.getD 1 dflt := by simp [List.getD]
theorem drop3_getD (r : List T) : (r.drop 3).getD 0 dflt = r.getD 3 dflt := by simp [List.getD]
def mapsLen : List (List T) → Nat
  | [] => 0
  | s :: ss => (s.getD 3 dflt).rows.length + mapsLen ss
theorem eqP_loop (m : Nat) (hm : 1 ≤ m) : ∀ (post pre : List (List T)), pre.length + post.length ≤ 1048576 → ∀ n, post.length < n → ∀ k0 k1, laws_eqPairS_L0_0 m n (.l (pre ++ post)) (.l (pre ++ post)) (.i pre.length) k0 k1 = k1
  | [], pre, hs, n, hn, k0, k1 => by
    obtain ⟨n, rfl⟩ : ∃ m', n = m' + 1 := ⟨n - 1, by omega⟩
    simp only [laws_eqPairS_L0_0, T.int_i, T.rows_l]
    rw [dec_f (by simp)]
  | x :: post, pre, hs, n, hn, k0, k1 => by
    obtain ⟨n, rfl⟩ : ∃ m', n = m' + 1 := ⟨n - 1, by omega⟩
    obtain ⟨m, rfl⟩ : ∃ m', m = m' + 1 := ⟨m - 1, by omega⟩
    simp only [List.length_cons] at hs hn
    have ih := eqP_loop (m + 1) hm post (pre ++ [x]) (by simp; omega) n (by omega) k0 k1
    rw [len_snoc, List.append_assoc, List.singleton_append] at ih
    simp only [laws_eqPairS_L0_0, T.int_i, T.rows_l, ix_row, ix_nx pre (by omega), laws_eqPair, beq_toList_self, Bool.not_true, cond_false, T.bool_b]
    rw [dec_t (by simp; omega), dec_t (by simp; omega), dec_t (by simp; omega)]
    exact ih
theorem eqP_ok {m : Nat} (hm : 1048603 ≤ m) (rows : List (List T)) (hs : rows.length ≤ 1048576) (k : T → An) : laws_eqPairS m (.l rows) (.l rows) k = k (.b true) := by
  obtain ⟨m, rfl⟩ : ∃ m', m = m' + 1 := ⟨m - 1, by omega⟩
  simp only [laws_eqPairS, T.rows_l, T.int_i, bne_self_eq_false, cond_false]
  exact eqP_loop m (by omega) rows [] (by simp; omega) m (by omega) _ _
/-- marked pairs -/
def mrk (m : Nat) : Nat → Nat → List (List T)
  | _, 0 => []
  | k, n + 1 => [.s (mtB m k), .s (mtB m (k + 1))] :: mrk m (k + 1 + 1) n
theorem mrk_len (m : Nat) : ∀ n k, (mrk m k n).length = n
  | 0, k => rfl
  | n + 1, k => by simp [mrk, mrk_len m n]
theorem markP_loop (m : Nat) (hm : 1048600 ≤ m) : ∀ (post pre : List (List T)) (k : Nat), (∀ r ∈ post, r.length = 2) → 0 < k → k + 2 * post.length ≤ 1048590 → pre.length + post.length ≤ 1048576 → ∀ n, post.length < n → ∀ k0,
    laws_markPairS_L0_0 m n (.i k) (.i pre.length) (.l (pre ++ post)) k0 = k0 (.i ((k + 2 * post.length : Nat) : Int)) (.l (pre ++ mrk m k post.length))
  | [], pre, k, h, hk, hb, hs, n, hn, k0 => by
    obtain ⟨n, rfl⟩ : ∃ m', n = m' + 1 := ⟨n - 1, by omega⟩
    simp only [laws_markPairS_L0_0, T.int_i, T.rows_l]
    rw [dec_f (by simp)]
    rfl
  | x :: post, pre, k, h, hk, hb, hs, n, hn, k0 => by
    obtain ⟨n, rfl⟩ : ∃ m', n = m' + 1 := ⟨n - 1, by omega⟩
    simp only [List.length_cons] at hb hs hn
    match x, h x (by simp) with
    | [c0, c1], _ =>
    have ih := markP_loop m hm post (pre ++ [[.s (mtB m k), .s (mtB m (k + 1))]]) (k + 1 + 1) (fun r hr => h r (by simp [hr])) (by omega) (by omega) (by simp; omega) n (by omega) k0
    rw [len_snoc, List.append_assoc, List.singleton_append, List.append_assoc, List.singleton_append] at ih
    simp only [laws_markPairS_L0_0, T.int_i, T.rows_l, ix_row, set_row, List.set_cons_zero, List.set_cons_succ, ix_nx pre (by omega), wr1 (k := k) (by omega), wr1 (k := k + 1) (by omega)]
    rw [dec_t (by simp; omega), markText_ok (by omega) (by omega) (by omega), dec_t (by simp; omega), dec_t (by simp), markText_ok (by omega) (by omega) (by omega), dec_t (by simp; omega), dec_t (by simp)]
    refine ih.trans ?_
    have e : k + 1 + 1 + 2 * post.length = k + 2 * (post.length + 1) := by omega
    rw [e]
    rfl
theorem markP_ok {m : Nat} (hm : 1048610 ≤ m) (rows : List (List T)) (h : ∀ r ∈ rows, r.length = 2) (k : Nat) (hk : 0 < k) (hs : k + 2 * rows.length ≤ 1048590) (K : T → T → An) :
    laws_markPairS m (.l rows) (.i k) K = K (.i ((k + 2 * rows.length : Nat) : Int)) (.l (mrk (m - 1) k rows.length)) := by
  obtain ⟨m, rfl⟩ : ∃ m', m = m' + 1 := ⟨m - 1, by omega⟩
  simp only [laws_markPairS, T.rows_l]
  refine (markP_loop m (by omega) rows [] k h hk hs (by simp; omega) m (by omega) _).trans ?_
  rfl
theorem heldP_loop (m : Nat) (hm : 1048600 ≤ m) (l : List (List T)) : ∀ (j : Nat) (pre : List (List T)) (k : Nat), l = pre ++ mrk m k j → 0 < k → k + 2 * j ≤ 1048590 → pre.length + j ≤ 1048576 → ∀ n, j < n → ∀ k0 k1,
    laws_heldPairS_L0_0 m n (.l l) (.i k) (.i pre.length) k0 k1 = k1 (.i ((k + 2 * j : Nat) : Int))
  | 0, pre, k, he, hk, hb, hs, n, hn, k0, k1 => by
    obtain ⟨n, rfl⟩ : ∃ m', n = m' + 1 := ⟨n - 1, by omega⟩
    subst he
    simp only [laws_heldPairS_L0_0, T.int_i, T.rows_l]
    rw [dec_f (by simp [mrk])]
    rfl
  | j + 1, pre, k, he, hk, hb, hs, n, hn, k0, k1 => by
    obtain ⟨n, rfl⟩ : ∃ m', n = m' + 1 := ⟨n - 1, by omega⟩
    have ih := heldP_loop m hm l j (pre ++ [[.s (mtB m k), .s (mtB m (k + 1))]]) (k + 1 + 1) (by rw [he]; simp [mrk]) (by omega) (by omega) (by simp; omega) n (by omega) k0 k1
    rw [len_snoc] at ih
    subst he
    have hml := mrk_len m j (k + 1 + 1)
    simp only [laws_heldPairS_L0_0, T.int_i, T.rows_l, mrk, ix_row, ix_nx pre (by omega), wr1 (k := k) (by omega), wr1 (k := k + 1) (by omega), drop1_getD, List.getD_cons_zero, List.getD_cons_succ, T.str_s]
    rw [dec_t (by simp; omega), dec_t (by simp; omega), markText_ok (by omega) (by omega) (by omega)]
    simp only [T.str_s, beq_toList_self, Bool.not_true, cond_false]
    rw [dec_t (by simp; omega), markText_ok (by omega) (by omega) (by omega)]
    simp only [T.str_s, beq_toList_self, Bool.not_true, cond_false]
    refine ih.trans ?_
    have e : k + 1 + 1 + 2 * j = k + 2 * (j + 1) := by omega
    rw [e]
theorem heldP_ok {m : Nat} (hm : 1048610 ≤ m) (j k : Nat) (hk : 0 < k) (hs : k + 2 * j ≤ 1048590) (K : T → An) :
    laws_heldPairS m (.l (mrk (m - 1) k j)) (.i k) K = K (.i ((k + 2 * j : Nat) : Int)) := by
  obtain ⟨m, rfl⟩ : ∃ m', m = m' + 1 := ⟨m - 1, by omega⟩
  simp only [laws_heldPairS, T.rows_l]
  exact heldP_loop m (by omega) _ j [] k rfl hk hs (by simp; omega) m (by omega) _ _
theorem markCoord_ok {m : Nat} (hm : 1048620 ≤ m) (x0 x1 x2 x5 : T) (a3 a4 : List (List T)) (h3 : ∀ r ∈ a3, WtRow esJob r) (h4 : ∀ r ∈ a4, WtRow esChoice r) (k : Nat) (hk : 0 < k) (hb : k + rowsBulk a3 + rowsBulk a4 ≤ 1048577) :
    ∃ (k' : Nat) (r3 r4 : List (List T)), k ≤ k' ∧ k' ≤ k + rowsBulk a3 + rowsBulk a4 ∧ ∀ K, laws_markCoord m x0 x1 x2 (.l a3) (.l a4) x5 (.i k) K = K (.i k') (.l r3) (.l r4) := by
  obtain ⟨m, rfl⟩ : ∃ m', m = m' + 1 := ⟨m - 1, by omega⟩
  obtain ⟨k3, r3, l3, u3, e3⟩ := markJobS_ok (m := m) (by omega) a3 h3 k hk (by omega)
  obtain ⟨k4, r4, l4, u4, e4⟩ := markChoiceS_ok (m := m) (by omega) a4 h4 k3 (by omega) (by omega)
  refine ⟨k4, r3, r4, by omega, by omega, fun K => ?_⟩
  simp only [laws_markCoord, T.rows_l]
  refine (e3 _).trans ?_
  refine (e4 _).trans ?_
  rfl
theorem markWorld_ok {m : Nat} (hm : 1048630 ≤ m) (x0 x1 x2 x5 : T) (a3 a4 a6 a7 a8 a9 : List (List T)) (h3 : ∀ r ∈ a3, WtRow esJob r) (h4 : ∀ r ∈ a4, WtRow esChoice r) (h6 : ∀ r ∈ a6, WtRow esShard r) (h7 : ∀ r ∈ a7, WtRow esWord r) (h8 : ∀ r ∈ a8, WtRow esWord r) (h9 : ∀ r ∈ a9, WtRow esOrder r)
    (hb : 1 + rowsBulk a3 + rowsBulk a4 + rowsBulk a6 + rowsBulk a7 + rowsBulk a8 + rowsBulk a9 ≤ 1048577) :
    ∃ (k' : Nat) (r3 r4 r6 r7 r8 r9 : List (List T)), ∀ K, laws_markWorld m x0 x1 x2 (.l a3) (.l a4) x5 (.l a6) (.l a7) (.l a8) (.l a9) (.i 1) K = K (.i k') (.l r3) (.l r4) (.l r6) (.l r7) (.l r8) (.l r9) := by
  obtain ⟨m, rfl⟩ : ∃ m', m = m' + 1 := ⟨m - 1, by omega⟩
  obtain ⟨k4, r3, r4, l4, u4, e4⟩ := markCoord_ok (m := m) (by omega) x0 x1 x2 x5 a3 a4 h3 h4 1 (by omega) (by omega)
  obtain ⟨k6, r6, l6, u6, e6⟩ := markShardS_ok (m := m) (by omega) a6 h6 k4 (by omega) (by omega)
  obtain ⟨k7, r7, l7, u7, e7⟩ := markWordS_ok (m := m) (by omega) a7 h7 k6 (by omega) (by omega)
  obtain ⟨k8, r8, l8, u8, e8⟩ := markWordS_ok (m := m) (by omega) a8 h8 k7 (by omega) (by omega)
  obtain ⟨k9, r9, l9, u9, e9⟩ := markOrderS_ok (m := m) (by omega) a9 h9 k8 (by omega) (by omega)
  refine ⟨k9, r3, r4, r6, r7, r8, r9, fun K => ?_⟩
  simp only [laws_markWorld, T.rows_l]
  refine (e4 _).trans ?_
  refine (e6 _).trans ?_
  refine (e7 _).trans ?_
  refine (e8 _).trans ?_
  refine (e9 _).trans ?_
  rfl
theorem maps_le : ∀ {ss : List (List T)}, (∀ r ∈ ss, WtRow esShard r) → 2 * mapsLen ss ≤ rowsBulk ss
  | [], _ => by simp [mapsLen]
  | s :: ss, h => by
    have ih := maps_le (ss := ss) fun r hr => h r (by simp [hr])
    have h1 := h s (by simp)
    simp only [esShard, WtRow, WtT] at h1
    obtain ⟨_, _, rfl, ⟨a0, rfl, -⟩, _, _, rfl, ⟨a1, rfl, -⟩, _, _, rfl, ⟨a2, rfl, -⟩, _, _, rfl, ⟨a3, rfl, h3⟩, _, _, rfl, ⟨a4, rfl, -⟩, rfl⟩ := h1
    have h2 : ∀ {ps : List (List T)}, (∀ r ∈ ps, WtRow esPair r) → 2 * ps.length ≤ rowsBulk ps := by
      intro ps
      induction ps with
      | nil => intro _; simp
      | cons p ps ihp =>
        intro hp
        have h5 := ihp fun r hr => hp r (by simp [hr])
        have h6 := hp p (by simp)
        simp only [esPair, WtRow, WtT] at h6
        obtain ⟨_, _, rfl, ⟨b0, rfl, -⟩, _, _, rfl, ⟨b1, rfl, -⟩, rfl⟩ := h6
        simp only [List.length_cons, rowsBulk, rowBulk, tbulk]
        omega
    have h4 := h2 (ps := a3) (by
      intro r hr
      have := h3 r hr
      simpa only [esPair, WtRow, WtT] using this)
    simp only [mapsLen, rowsBulk, rowBulk, tbulk, List.getD_cons_succ, List.getD_cons_zero, T.rows_l]
    omega
/-- tables -/
def tbR (ps : List (List T)) : List T := [.l ps]
def mapsOf (ss : List (List T)) : List (List (List T)) := ss.map fun s => (s.getD 3 dflt).rows
def lens : List (List (List T)) → Nat
  | [] => 0
  | p :: ps => p.length + lens ps
theorem lens_maps : ∀ ss, lens (mapsOf ss) = mapsLen ss
  | [] => rfl
  | s :: ss => by
    have := lens_maps ss
    unfold mapsOf at this ⊢
    simp only [List.map_cons, lens, mapsLen, this]
theorem lens_mem : ∀ {pss : List (List (List T))} {p : List (List T)}, p ∈ pss → p.length ≤ lens pss
  | [], p, h => by cases h
  | q :: pss, p, h => by
    simp only [lens]
    rcases List.mem_cons.1 h with rfl | h
    · omega
    · have := lens_mem h
      omega
theorem tb_snoc (pre : List (List (List T))) (p : List (List T)) : (pre ++ [p]).map tbR = pre.map tbR ++ [tbR p] := by simp
theorem specT_loop (m : Nat) (x2 x3 x4 x5 x6 x7 x9 x10 x11 : T) : ∀ (post pre acc : List (List T)) (x0 : T), mapsLen post ≤ 1048576 → pre.length + post.length ≤ 1048576 → acc.length + post.length ≤ 1048576 → ∀ n, post.length < n → ∀ k0,
    spec_TablesOf_L0_0 m n x0 (.i pre.length) x2 x3 x4 x5 x6 x7 (.l (pre ++ post)) x9 x10 x11 (.l acc) k0 = k0 (.l (acc ++ (mapsOf post).map tbR))
  | [], pre, acc, x0, ha, hs, hc, n, hn, k0 => by
    obtain ⟨n, rfl⟩ : ∃ m', n = m' + 1 := ⟨n - 1, by omega⟩
    simp only [spec_TablesOf_L0_0, T.int_i, T.rows_l]
    rw [dec_f (by simp)]
    simp [mapsOf]
  | x :: post, pre, acc, x0, ha, hs, hc, n, hn, k0 => by
    obtain ⟨n, rfl⟩ : ∃ m', n = m' + 1 := ⟨n - 1, by omega⟩
    simp only [List.length_cons] at hs hn hc
    simp only [mapsLen] at ha
    have ih := fun x0 => specT_loop m x2 x3 x4 x5 x6 x7 x9 x10 x11 post (pre ++ [x]) (acc ++ [tbR (x.getD 3 dflt).rows]) x0 (by omega) (by simp; omega) (by simp; omega) n (by omega) k0
    rw [len_snoc, List.append_assoc, List.singleton_append] at ih
    simp only [spec_TablesOf_L0_0, T.int_i, T.rows_l, ix_row, ix_nx pre (by omega), drop3_getD]
    rw [dec_t (by simp <;> omega), dec_t (by simp <;> omega), dec_t (by unfold maxRow; omega), dec_t (by unfold maxRow; omega)]
    refine (ih _).trans ?_
    rw [List.append_assoc]
    rfl
theorem implT_loop (m : Nat) (hm : 1 ≤ m) (l : List (List T)) : ∀ (post pre acc : List (List T)), l = pre ++ post → mapsLen post ≤ 1048576 → pre.length + post.length ≤ 1048576 → acc.length + post.length ≤ 1048576 → ∀ n, post.length < n → ∀ k0,
    impl_TablesOf_L0_0 m n (.l l) (.i l.length) (.i pre.length) (.l acc) k0 = k0 (.l (acc ++ (mapsOf post).map tbR))
  | [], pre, acc, he, ha, hs, hc, n, hn, k0 => by
    obtain ⟨n, rfl⟩ : ∃ m', n = m' + 1 := ⟨n - 1, by omega⟩
    subst he
    simp only [impl_TablesOf_L0_0, T.int_i, T.rows_l]
    rw [dec_f (by simp)]
    simp [mapsOf]
  | x :: post, pre, acc, he, ha, hs, hc, n, hn, k0 => by
    obtain ⟨n, rfl⟩ : ∃ m', n = m' + 1 := ⟨n - 1, by omega⟩
    obtain ⟨m, rfl⟩ : ∃ m', m = m' + 1 := ⟨m - 1, by omega⟩
    simp only [List.length_cons] at hs hn hc
    simp only [mapsLen] at ha
    have ih := implT_loop (m + 1) hm l post (pre ++ [x]) (acc ++ [tbR (x.getD 3 dflt).rows]) (by rw [he]; simp) (by omega) (by simp; omega) (by simp; omega) n (by omega) k0
    subst he
    rw [len_snoc] at ih
    simp only [impl_TablesOf_L0_0, T.int_i, T.rows_l, ix_row, ix_nx pre (by omega), slices_Clone___impl_Pair_impl_Pair_]
    rw [dec_t (by simp <;> omega), dec_t (by simp <;> omega), dec_t (by unfold maxRow; omega), dec_t (by unfold maxRow; omega)]
    refine ih.trans ?_
    rw [List.append_assoc]
    rfl
theorem specT_ok {m : Nat} (hm : 1048800 ≤ m) (x0 x1 x2 x3 x4 x5 x7 x8 x9 : T) (ss : List (List T)) (hl : mapsLen ss ≤ 1048576) (hs : ss.length ≤ 1048576) (k : T → An) :
    spec_TablesOf m x0 x1 x2 x3 x4 x5 (.l ss) x7 x8 x9 k = k (.l ((mapsOf ss).map tbR)) := by
  obtain ⟨m, rfl⟩ : ∃ m', m = m' + 1 := ⟨m - 1, by omega⟩
  simp only [spec_TablesOf, T.rows_l]
  exact specT_loop m _ _ _ _ _ _ _ _ _ ss [] [] _ hl (by simpa using hs) (by simpa using hs) m (by omega) _
theorem implT_ok {m : Nat} (hm : 1048800 ≤ m) (x0 x1 x2 x3 x4 x5 x7 x8 x9 : T) (ss : List (List T)) (hl : mapsLen ss ≤ 1048576) (hs : ss.length ≤ 1048576) (k : T → An) :
    impl_TablesOf m x0 x1 x2 x3 x4 x5 (.l ss) x7 x8 x9 k = k (.l ((mapsOf ss).map tbR)) := by
  obtain ⟨m, rfl⟩ : ∃ m', m = m' + 1 := ⟨m - 1, by omega⟩
  simp only [impl_TablesOf, T.rows_l]
  exact implT_loop m (by omega) ss ss [] [] rfl hl (by simpa using hs) (by simpa using hs) m (by omega) _
theorem eqT_loop (m : Nat) (hm : 1048610 ≤ m) : ∀ (post pre : List (List (List T))), lens post ≤ 1048576 → pre.length + post.length ≤ 1048576 → ∀ n, post.length < n → ∀ k0 k1, laws_eqTableS_L0_0 m n (.l (pre.map tbR ++ post.map tbR)) (.l (pre.map tbR ++ post.map tbR)) (.i pre.length) k0 k1 = k1
  | [], pre, hl, hs, n, hn, k0, k1 => by
    obtain ⟨n, rfl⟩ : ∃ m', n = m' + 1 := ⟨n - 1, by omega⟩
    simp only [laws_eqTableS_L0_0, T.int_i, T.rows_l]
    rw [dec_f (by simp)]
  | x :: post, pre, hl, hs, n, hn, k0, k1 => by
    obtain ⟨n, rfl⟩ : ∃ m', n = m' + 1 := ⟨n - 1, by omega⟩
    obtain ⟨m, rfl⟩ : ∃ m', m = m' + 1 := ⟨m - 1, by omega⟩
    simp only [List.length_cons] at hs hn
    simp only [lens] at hl
    have ih := eqT_loop (m + 1) hm post (pre ++ [x]) (by omega) (by simp; omega) n (by omega) k0 k1
    rw [len_snoc, tb_snoc, List.append_assoc, List.singleton_append] at ih
    have hp : (pre.map tbR).length = pre.length := by simp
    have hr : (pre.map tbR ++ tbR x :: post.map tbR).getD (Int.toNat (pre.length : Int)) [] = tbR x := by
      rw [← hp]; exact ix_row _ _ _
    simp only [List.map_cons, laws_eqTableS_L0_0, T.int_i, T.rows_l, hr, ix_nx pre (by omega), laws_eqTable]
    rw [dec_t (by simp; omega), dec_t (by simp; omega), dec_t (by simp; omega)]
    simp only [tbR, List.getD_cons_zero, T.rows_l]
    rw [eqP_ok (by omega) x (by omega)]
    simp only [T.bool_b, Bool.not_true, cond_false]
    exact ih
theorem eqT_ok {m : Nat} (hm : 1048620 ≤ m) (pss : List (List (List T))) (hl : lens pss ≤ 1048576) (hs : pss.length ≤ 1048576) (k : T → An) : laws_eqTableS m (.l (pss.map tbR)) (.l (pss.map tbR)) k = k (.b true) := by
  obtain ⟨m, rfl⟩ : ∃ m', m = m' + 1 := ⟨m - 1, by omega⟩
  simp only [laws_eqTableS, T.rows_l, T.int_i, bne_self_eq_false, cond_false]
  exact eqT_loop m (by omega) pss [] hl (by simpa using hs) m (by omega) _ _
/-- marked tables -/
def mrkT (m : Nat) : Nat → List (List (List T)) → List (List T)
  | _, [] => []
  | k, p :: pss => [.l (mrk m k p.length)] :: mrkT m (k + 2 * p.length) pss
theorem mrkT_len (m : Nat) : ∀ pss k, (mrkT m k pss).length = pss.length
  | [], k => rfl
  | p :: pss, k => by simp [mrkT, mrkT_len m pss]
theorem markT_loop (m : Nat) (hm : 1048620 ≤ m) : ∀ (post : List (List (List T))) (pre : List (List T)) (k : Nat), (∀ p ∈ post, ∀ r ∈ p, r.length = 2) → 0 < k → k + 2 * lens post ≤ 1048590 → pre.length + post.length ≤ 1048576 → ∀ n, post.length < n → ∀ k0,
    laws_markTableS_L0_0 m n (.i k) (.i pre.length) (.l (pre ++ post.map tbR)) k0 = k0 (.i ((k + 2 * lens post : Nat) : Int)) (.l (pre ++ mrkT (m - 1) k post))
  | [], pre, k, h, hk, hb, hs, n, hn, k0 => by
    obtain ⟨n, rfl⟩ : ∃ m', n = m' + 1 := ⟨n - 1, by omega⟩
    simp only [laws_markTableS_L0_0, T.int_i, T.rows_l]
    rw [dec_f (by simp)]
    rfl
  | x :: post, pre, k, h, hk, hb, hs, n, hn, k0 => by
    obtain ⟨n, rfl⟩ : ∃ m', n = m' + 1 := ⟨n - 1, by omega⟩
    simp only [List.length_cons] at hs hn
    simp only [lens] at hb ⊢
    have ih := markT_loop m hm post (pre ++ [[.l (mrk (m - 1) k x.length)]]) (k + 2 * x.length) (fun p hp => h p (by simp [hp])) (by omega) (by omega) (by simp; omega) n (by omega) k0
    rw [len_snoc, List.append_assoc, List.singleton_append, List.append_assoc, List.singleton_append] at ih
    simp only [List.map_cons, laws_markTableS_L0_0, T.int_i, T.rows_l, ix_row, set_row, ix_nx pre (by omega)]
    rw [dec_t (by simp; omega), dec_t (by simp; omega), dec_t (by simp), dec_t (by simp)]
    simp only [tbR, List.headD_cons, T.rows_l] at ih ⊢
    rw [markP_ok (by omega) x (h x (by simp)) k hk (by omega)]
    simp only [T.rows_l]
    refine ih.trans ?_
    have e : k + 2 * x.length + 2 * lens post = k + 2 * (x.length + lens post) := by omega
    rw [e]
    rfl
theorem markT_ok {m : Nat} (hm : 1048630 ≤ m) (pss : List (List (List T))) (h : ∀ p ∈ pss, ∀ r ∈ p, r.length = 2) (hb : 1 + 2 * lens pss ≤ 1048590) (hs : pss.length ≤ 1048576) (K : T → T → An) :
    laws_markTableS m (.l (pss.map tbR)) (.i 1) K = K (.i ((1 + 2 * lens pss : Nat) : Int)) (.l (mrkT (m - 1 - 1) 1 pss)) := by
  obtain ⟨m, rfl⟩ : ∃ m', m = m' + 1 := ⟨m - 1, by omega⟩
  simp only [laws_markTableS, T.rows_l]
  refine (markT_loop m (by omega) pss [] 1 h (by omega) hb (by simpa using hs) m (by omega) _).trans ?_
  rfl
theorem heldT_loop (m : Nat) (hm : 1048620 ≤ m) (l : List (List T)) : ∀ (post : List (List (List T))) (pre : List (List T)) (k : Nat), l = pre ++ mrkT (m - 1) k post → 0 < k → k + 2 * lens post ≤ 1048590 → pre.length + post.length ≤ 1048576 → ∀ n, post.length < n → ∀ k0 k1,
    laws_heldTableS_L0_0 m n (.l l) (.i k) (.i pre.length) k0 k1 = k1 (.i ((k + 2 * lens post : Nat) : Int))
  | [], pre, k, he, hk, hb, hs, n, hn, k0, k1 => by
    obtain ⟨n, rfl⟩ : ∃ m', n = m' + 1 := ⟨n - 1, by omega⟩
    subst he
    simp only [laws_heldTableS_L0_0, T.int_i, T.rows_l]
    rw [dec_f (by simp [mrkT])]
    rfl
  | x :: post, pre, k, he, hk, hb, hs, n, hn, k0, k1 => by
    obtain ⟨n, rfl⟩ : ∃ m', n = m' + 1 := ⟨n - 1, by omega⟩
    simp only [List.length_cons] at hs hn
    simp only [lens] at hb ⊢
    have ih := heldT_loop m hm l post (pre ++ [[.l (mrk (m - 1) k x.length)]]) (k + 2 * x.length) (by rw [he]; simp [mrkT]) (by omega) (by omega) (by simp; omega) n (by omega) k0 k1
    rw [len_snoc] at ih
    subst he
    have hml := mrkT_len (m - 1) post (k + 2 * x.length)
    simp only [laws_heldTableS_L0_0, T.int_i, T.rows_l, mrkT, ix_row, ix_nx pre (by omega), List.getD_cons_zero]
    rw [dec_t (by simp; omega), dec_t (by simp; omega), heldP_ok (by omega) x.length k hk (by omega)]
    rw [dec_f (by rw [T.int_i]; omega)]
    refine ih.trans ?_
    have e : k + 2 * x.length + 2 * lens post = k + 2 * (x.length + lens post) := by omega
    rw [e]
theorem heldT_ok {m : Nat} (hm : 1048630 ≤ m) (pss : List (List (List T))) (hb : 1 + 2 * lens pss ≤ 1048590) (hs : pss.length ≤ 1048576) (K : T → An) :
    laws_heldTableS m (.l (mrkT (m - 1 - 1) 1 pss)) (.i 1) K = K (.i ((1 + 2 * lens pss : Nat) : Int)) := by
  obtain ⟨m, rfl⟩ : ∃ m', m = m' + 1 := ⟨m - 1, by omega⟩
  simp only [laws_heldTableS, T.rows_l]
  exact heldT_loop m (by omega) _ pss [] 1 rfl (by omega) hb (by simpa using hs) m (by omega) _ _
theorem maps_two {ss : List (List T)} (h : ∀ r ∈ ss, WtRow esShard r) : ∀ p ∈ mapsOf ss, ∀ r ∈ p, r.length = 2 := by
  intro p hp r hr
  obtain ⟨s, hs, rfl⟩ := List.mem_map.1 hp
  have h1 := h s hs
  simp only [esShard, WtRow, WtT] at h1
  obtain ⟨_, _, rfl, ⟨a0, rfl, -⟩, _, _, rfl, ⟨a1, rfl, -⟩, _, _, rfl, ⟨a2, rfl, -⟩, _, _, rfl, ⟨a3, rfl, h3⟩, _, _, rfl, ⟨a4, rfl, -⟩, rfl⟩ := h1
  simp only [List.getD_cons_succ, List.getD_cons_zero, T.rows_l] at hr
  obtain ⟨_, _, rfl, ⟨b0, rfl, -⟩, _, _, rfl, ⟨b1, rfl, -⟩, rfl⟩ := h3 r hr
  rfl
end Go.Proofs.Ytdmjaenknhhidaa

namespace Go.Proofs.Ytdmjaenknhhidaa
open Go Go.E Go.Proofs
mutual
def neT : LT → Bool
  | .sc .any => false
  | .sc _ => true
  | .sl es => !es.isEmpty && neTs es
def neTs : List LT → Bool
  | [] => true
  | e :: es => neT e && neTs es
end
theorem rowsSz_le {es : List LT} (hes : es ≠ []) (h : ∀ r, WtRow es r → rowSz r + es.length ≤ rowBulk r) : ∀ {rows : List (List T)}, (∀ r ∈ rows, WtRow es r) → rows.length + rowsSz rows ≤ rowsBulk rows
  | [], _ => by simp [rowsSz]
  | r :: rows, hr => by
    have h1 := rowsSz_le hes h (rows := rows) fun r h => hr r (by simp [h])
    have h2 := h r (hr r (by simp))
    have h3 : 0 < es.length := List.length_pos_iff.2 hes
    simp only [rowsSz, rowsBulk, List.length_cons]
    omega
mutual
theorem tsz_le : ∀ (lt : LT), neT lt = true → ∀ t, WtT lt t → tsz t + 1 ≤ tbulk t
  | .sc (.int k), _, t, h => by unfold WtT at h; obtain ⟨n, rfl, -⟩ := h; simp [tsz, tbulk]
  | .sc .bool, _, t, h => by unfold WtT at h; obtain ⟨n, rfl⟩ := h; simp [tsz, tbulk]
  | .sc .str, _, t, h => by unfold WtT at h; obtain ⟨n, rfl, -⟩ := h; simp [tsz, tbulk]
  | .sc .any, h, _, _ => by unfold neT at h; cases h
  | .sl es, hn, t, h => by
    unfold neT at hn
    simp only [Bool.and_eq_true, Bool.not_eq_true', List.isEmpty_eq_false_iff] at hn
    unfold WtT at h
    obtain ⟨rows, rfl, h⟩ := h
    have := rowsSz_le hn.1 (rowSz_le es hn.2) h
    simp only [tsz, tbulk]
    omega
theorem rowSz_le : ∀ (es : List LT), neTs es = true → ∀ r, WtRow es r → rowSz r + es.length ≤ rowBulk r
  | [], _, r, h => by unfold WtRow at h; subst h; simp [rowSz, rowBulk]
  | e :: es, hn, r, h => by
    unfold neTs at hn
    simp only [Bool.and_eq_true] at hn
    unfold WtRow at h
    obtain ⟨d, r, rfl, h1, h2⟩ := h
    have h3 := tsz_le e hn.1 d h1
    have h4 := rowSz_le es hn.2 r h2
    simp only [rowSz, rowBulk, List.length_cons]
    omega
end
theorem rowsBulk_mem : ∀ {rows : List (List T)} {r : List T}, r ∈ rows → rowBulk r ≤ rowsBulk rows
  | [], _, h => by cases h
  | x :: rows, r, h => by
    rcases List.mem_cons.1 h with rfl | h
    · simp only [rowsBulk]; omega
    · have := rowsBulk_mem h
      simp only [rowsBulk]; omega
theorem fnTablesOf_ok (a0 a1 a2 : Int) (a3 a4 : List (List T)) (a5 : Int) (a6 a7 a8 a9 : List (List T)) (h : WtRow esWorld [.i a0, .i a1, .i a2, .l a3, .l a4, .i a5, .l a6, .l a7, .l a8, .l a9])
    (hb : rowBulk [.i a0, .i a1, .i a2, .l a3, .l a4, .i a5, .l a6, .l a7, .l a8, .l a9] ≤ 1048576) (k : T → An) :
    laws_FnExactTablesOf 4194304 (.i a0) (.i a1) (.i a2) (.l a3) (.l a4) (.i a5) (.l a6) (.l a7) (.l a8) (.l a9) k = k (.b true) := by
  have hz := rowSz_le esWorld (by decide) _ h
  unfold esWorld at h hz
  simp only [List.length_cons, List.length_nil] at hz
  have h3 : ∀ r ∈ a3, WtRow esJob r := by simp only [WtRow, WtT] at h; obtain ⟨_, _, e, -, _, _, rfl, -, _, _, rfl, -, _, _, rfl, ⟨_, rfl, h⟩, -⟩ := h; cases e; exact h
  have h4 : ∀ r ∈ a4, WtRow esChoice r := by simp only [WtRow, WtT] at h; obtain ⟨_, _, e, -, _, _, rfl, -, _, _, rfl, -, _, _, rfl, -, _, _, rfl, ⟨_, rfl, h⟩, -⟩ := h; cases e; exact h
  have h6 : ∀ r ∈ a6, WtRow esShard r := by simp only [WtRow, WtT] at h; obtain ⟨_, _, e, -, _, _, rfl, -, _, _, rfl, -, _, _, rfl, -, _, _, rfl, -, _, _, rfl, -, _, _, rfl, ⟨_, rfl, h⟩, -⟩ := h; cases e; exact h
  have h7 : ∀ r ∈ a7, WtRow esWord r := by simp only [WtRow, WtT] at h; obtain ⟨_, _, e, -, _, _, rfl, -, _, _, rfl, -, _, _, rfl, -, _, _, rfl, -, _, _, rfl, -, _, _, rfl, -, _, _, rfl, ⟨_, rfl, h⟩, -⟩ := h; cases e; exact h
  have h8 : ∀ r ∈ a8, WtRow esWord r := by simp only [WtRow, WtT] at h; obtain ⟨_, _, e, -, _, _, rfl, -, _, _, rfl, -, _, _, rfl, -, _, _, rfl, -, _, _, rfl, -, _, _, rfl, -, _, _, rfl, -, _, _, rfl, ⟨_, rfl, h⟩, -⟩ := h; cases e; exact h
  have h9 : ∀ r ∈ a9, WtRow esOrder r := by simp only [WtRow, WtT] at h; obtain ⟨_, _, e, -, _, _, rfl, -, _, _, rfl, -, _, _, rfl, -, _, _, rfl, -, _, _, rfl, -, _, _, rfl, -, _, _, rfl, -, _, _, rfl, -, _, _, rfl, ⟨_, rfl, h⟩, -⟩ := h; cases e; exact h
  have hb' := hb
  simp only [rowBulk, tbulk] at hb'
  have l4 := wtRows_len (es := esChoice) (by simp) h4
  have l9 := wtRows_len (es := esOrder) (by simp) h9
  have z := szWorld_ok (m := 4194303) (by omega) a0 a1 a2 a3 a4 a5 a6 a7 a8 a9 h3 (by omega) h4 (by omega) h6 (by omega) h7 (by omega) h8 (by omega) h9 (by omega) 1048576 (by omega) (by omega)
  have t := toWorld_ok (m := 4194303) (by omega) a0 a1 a2 a3 a4 a5 a6 a7 a8 a9 h3 (by omega) h4 (by omega) h6 (by omega) h7 (by omega) h8 (by omega) h9 (by omega)
  have e := eqWorld_ok (m := 4194303) (by omega) a0 a1 a2 a3 a4 a5 a6 a7 a8 a9 h3 (by omega) h4 (by omega) h6 (by omega) h7 (by omega) h8 (by omega) h9 (by omega)
  have hm6 := maps_le h6
  have l6 := wtRows_len (es := esShard) (by simp) h6
  have hlm := lens_maps a6
  obtain ⟨ps, hps⟩ : ∃ ps, ps = mapsOf a6 := ⟨_, rfl⟩
  have hpl : ps.length = a6.length := by rw [hps]; simp [mapsOf]
  rw [← hps] at hlm
  have h2 : ∀ p ∈ ps, ∀ r ∈ p, r.length = 2 := by rw [hps]; exact maps_two h6
  have p1 : ∀ k, spec_TablesOf 4194303 (.i a0) (.i a1) (.i a2) (.l a3) (.l a4) (.i a5) (.l a6) (.l a7) (.l a8) (.l a9) k = k (.l (ps.map tbR)) := fun k => by rw [hps]; exact specT_ok (by omega) _ _ _ _ _ _ _ _ _ a6 (by omega) (by omega) k
  have p2 : ∀ k, impl_TablesOf 4194303 (.i a0) (.i a1) (.i a2) (.l a3) (.l a4) (.i a5) (.l a6) (.l a7) (.l a8) (.l a9) k = k (.l (ps.map tbR)) := fun k => by rw [hps]; exact implT_ok (by omega) _ _ _ _ _ _ _ _ _ a6 (by omega) (by omega) k
  obtain ⟨kw, r3, r4, r6, r7, r8, r9, hw⟩ := markWorld_ok (m := 4194303) (by omega) (.i a0) (.i a1) (.i a2) (.i a5) a3 a4 a6 a7 a8 a9 h3 h4 h6 h7 h8 h9 (by omega)
  have hmp := fun K => markT_ok (m := 4194303) (by omega) ps h2 (by omega) (by omega) K
  have hhp := fun K => heldT_ok (m := 4194303) (by omega) ps (by omega) (by omega) K
  have heq := fun K => eqT_ok (m := 4194303) (by omega) ps (by omega) (by omega) K
  simp only [laws_FnExactTablesOf, T.rows_l, z, T.int_i, t]
  rw [dec_f (by omega), p1]
  simp only [T.rows_l]
  rw [p2]
  simp only [T.rows_l, heq, T.bool_b, Bool.not_true, cond_false, e, hw, T.int_i]
  rw [cond_t (by simp)]
  simp only [hmp, T.rows_l, hhp, T.int_i]
  rw [dec_f (by omega)]
  simp only [bne_self_eq_false, cond_false, p2, T.rows_l, heq, T.bool_b, Bool.not_true, hhp, T.int_i]
  rw [dec_f (by omega)]
  try simp only [bne_self_eq_false, cond_false]
end Go.Proofs.Ytdmjaenknhhidaa

