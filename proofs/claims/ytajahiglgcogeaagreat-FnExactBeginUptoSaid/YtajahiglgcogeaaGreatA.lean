/- A part of the proof: texts BL, BA, BV, BB, BC, BD, BE: see the last part's opening words. -/
import Derived.Test.YtajahiglgcogeaaGreatP
set_option linter.unusedVariables false
set_option linter.unusedSimpArgs false
set_option linter.unnecessarySimpa false
namespace Go.Proofs.YtajahiglgcogeaaGreat
open Go Go.E Go.Proofs
mutual
def tsz : T → Nat
  | .i _ => 0
  | .b _ => 0
  | .s s => s.size
  | .l rows => rows.length + rowsSz rows
  | .x _ => 0
def rowSz : List T → Nat
  | [] => 0
  | d :: ds => tsz d + rowSz ds
def rowsSz : List (List T) → Nat
  | [] => 0
  | r :: rs => rowSz r + rowsSz rs
end
theorem rowsSz_app : ∀ a b : List (List T), rowsSz (a ++ b) = rowsSz a + rowsSz b
  | [], b => by simp [rowsSz]
  | x :: a, b => by simp only [List.cons_append, rowsSz, rowsSz_app a b]; omega
theorem rowsBulk_app : ∀ a b : List (List T), rowsBulk (a ++ b) = rowsBulk a + rowsBulk b
  | [], b => by simp [rowsBulk]
  | x :: a, b => by simp only [List.cons_append, rowsBulk, rowsBulk_app a b]; omega
theorem ix_row (pre : List (List T)) (x : List T) (post : List (List T)) : (pre ++ x :: post).getD (Int.toNat (pre.length : Int)) [] = x := by simp [List.getD]
theorem ix_nx {α : Type} (pre : List α) (h : pre.length < 4611686018427387904) : IntKind.i64.wrap ((pre.length : Int) + 1) = (pre.length : Int) + 1 := wrap_i64 (by omega) (by omega)
theorem len_snoc {α : Type} (pre : List α) (x : α) : (((pre ++ [x]).length : Nat) : Int) = (pre.length : Int) + 1 := by simp
theorem set_row (pre : List (List T)) (x y : List T) (post : List (List T)) : (pre ++ x :: post).set (Int.toNat (pre.length : Int)) y = pre ++ y :: post := by simp [List.set_append]
theorem wtRow_ne {es : List LT} (hes : es ≠ []) {r : List T} (h : WtRow es r) : 1 ≤ rowBulk r := by
  match es, hes with
  | e :: es, _ =>
    unfold WtRow at h
    obtain ⟨d, r, rfl, -, -⟩ := h
    have : 1 ≤ tbulk d := by cases d <;> simp [tbulk]
    simp only [rowBulk]; omega
theorem wtRows_len {es : List LT} (hes : es ≠ []) : ∀ {rows : List (List T)}, (∀ r ∈ rows, WtRow es r) → rows.length ≤ rowsBulk rows
  | [], _ => by simp [rowsBulk]
  | r :: rows, h => by
    have h1 := wtRow_ne hes (h r (by simp))
    have h2 := wtRows_len hes (rows := rows) fun r hr => h r (by simp [hr])
    simp only [rowsBulk, List.length_cons]; omega
abbrev esInt : List LT := [.sc (.int .i64)]
theorem toIntS_loop (m : Nat) (hm : 1048602 ≤ m) : ∀ (post pre z : List (List T)), (∀ r ∈ post, WtRow esInt r) → rowsBulk post ≤ 1048576 → z.length = post.length → (∀ r ∈ z, r.length = 1) → pre.length + post.length ≤ 1048576 →
    ∀ n, post.length < n → ∀ k0, laws_toIntS_L0_0 m n (.l (pre ++ post)) (.i pre.length) (.l (pre ++ z)) k0 = k0 (.l (pre ++ post))
  | [], pre, z, h, hb, hz, hz2, hs, n, hn, k0 => by
    obtain ⟨n, rfl⟩ : ∃ m', n = m' + 1 := ⟨n - 1, by omega⟩
    obtain rfl : z = [] := List.eq_nil_of_length_eq_zero hz
    simp only [laws_toIntS_L0_0, T.int_i, T.rows_l]
    rw [dec_f (by simp)]
  | x :: post, pre, z, h, hb, hz, hz2, hs, n, hn, k0 => by
    obtain ⟨n, rfl⟩ : ∃ m', n = m' + 1 := ⟨n - 1, by omega⟩
    simp only [List.length_cons] at hs hn hz
    match z, hz, hz2 with
    | r :: z, hz, hz2 =>
    simp only [List.length_cons] at hz
    match r, hz2 r (by simp) with
    | [c0], _ =>
    have ih := toIntS_loop m hm post (pre ++ [x]) z (fun r hr => h r (by simp [hr])) (by simp only [rowsBulk] at hb; omega) (by omega) (fun r hr => hz2 r (by simp [hr])) (by simp; omega) n (by omega) k0
    have hx := h x (by simp)
    simp only [esInt, WtRow, WtT] at hx
    obtain ⟨_, _, rfl, ⟨a0, rfl, -⟩, rfl⟩ := hx
    simp only [rowsBulk, rowBulk, tbulk] at hb
    simp only [laws_toIntS_L0_0, T.int_i, T.rows_l, ix_row, ix_nx pre (by omega), set_row, List.getD_cons_zero, List.getD_cons_succ, List.set_cons_zero, List.set_cons_succ]
    rw [dec_t (by simp; omega), dec_t (by simp; omega)]
    rw [dec_t (by simp; omega), dec_t (by simp)]
    simpa using ih
theorem toIntS_ok {m : Nat} (hm : 1048603 ≤ m) (rows : List (List T)) (h : ∀ r ∈ rows, WtRow esInt r) (hb : rowsBulk rows ≤ 1048576) (k : T → An) : laws_toIntS m (.l rows) k = k (.l rows) := by
  obtain ⟨m, rfl⟩ : ∃ m', m = m' + 1 := ⟨m - 1, by omega⟩
  have hl := wtRows_len (by simp) h
  simp only [laws_toIntS, T.rows_l, T.int_i]
  rw [dec_t (by omega), dec_t (by unfold maxCells; omega)]
  exact toIntS_loop m (by omega) rows [] (List.replicate _ _) h hb (by simp) (fun r hr => by rw [List.eq_of_mem_replicate hr]; rfl) (by simp; omega) m (by omega) _
theorem rowsInt_sz : ∀ {rows : List (List T)}, (∀ r ∈ rows, WtRow esInt r) → rowsSz rows = 0
  | [], _ => rfl
  | x :: rows, h => by
    have ih := rowsInt_sz (rows := rows) fun r hr => h r (by simp [hr])
    have hx := h x (by simp)
    simp only [esInt, WtRow, WtT] at hx
    obtain ⟨_, _, rfl, ⟨a0, rfl, -⟩, rfl⟩ := hx
    simp only [rowsSz, rowSz, tsz, ih]
theorem szIntS_ok {m : Nat} (hm : 1048603 ≤ m) (rows : List (List T)) (h : ∀ r ∈ rows, WtRow esInt r) (hb : rowsBulk rows ≤ 1048576) (l : Int) (hl : ((rows.length + rowsSz rows : Nat) : Int) ≤ l) (hl2 : l ≤ 1048576) (k : T → An) : laws_szIntS m (.l rows) (.i l) k = k (.i (l - (rows.length + rowsSz rows : Nat))) := by
  obtain ⟨m, rfl⟩ : ∃ m', m = m' + 1 := ⟨m - 1, by omega⟩
  have e := rowsInt_sz h
  rw [e] at hl ⊢
  have hlen := wtRows_len (by simp) h
  simp only [laws_szIntS, T.rows_l, T.int_i]
  rw [show IntKind.i64.wrap (l - (rows.length : Int)) = l - (rows.length : Int) from wrap_i64 (by omega) (by omega), dec_f (by omega)]
  congr 2
abbrev esOp : List LT := [.sc (.int .i64), .sc .str, .sc .str]
theorem toOp_ok {m : Nat} (hm : 1048602 ≤ m) (a0 : Int) (a1 : ByteArray) (a2 : ByteArray)  (k : T → T → T → An) : laws_toOp m (.i a0) (.s a1) (.s a2) k = k (.i a0) (.s a1) (.s a2) := by
  obtain ⟨m, rfl⟩ : ∃ m', m = m' + 1 := ⟨m - 1, by omega⟩
  simp only [laws_toOp, T.rows_l]
theorem toOpS_loop (m : Nat) (hm : 1048602 ≤ m) : ∀ (post pre z : List (List T)), (∀ r ∈ post, WtRow esOp r) → rowsBulk post ≤ 1048576 → z.length = post.length → (∀ r ∈ z, r.length = 3) → pre.length + post.length ≤ 1048576 →
    ∀ n, post.length < n → ∀ k0, laws_toOpS_L0_0 m n (.l (pre ++ post)) (.i pre.length) (.l (pre ++ z)) k0 = k0 (.l (pre ++ post))
  | [], pre, z, h, hb, hz, hz2, hs, n, hn, k0 => by
    obtain ⟨n, rfl⟩ : ∃ m', n = m' + 1 := ⟨n - 1, by omega⟩
    obtain rfl : z = [] := List.eq_nil_of_length_eq_zero hz
    simp only [laws_toOpS_L0_0, T.int_i, T.rows_l]
    rw [dec_f (by simp)]
  | x :: post, pre, z, h, hb, hz, hz2, hs, n, hn, k0 => by
    obtain ⟨n, rfl⟩ : ∃ m', n = m' + 1 := ⟨n - 1, by omega⟩
    simp only [List.length_cons] at hs hn hz
    match z, hz, hz2 with
    | r :: z, hz, hz2 =>
    simp only [List.length_cons] at hz
    match r, hz2 r (by simp) with
    | [c0, c1, c2], _ =>
    have ih := toOpS_loop m hm post (pre ++ [x]) z (fun r hr => h r (by simp [hr])) (by simp only [rowsBulk] at hb; omega) (by omega) (fun r hr => hz2 r (by simp [hr])) (by simp; omega) n (by omega) k0
    have hx := h x (by simp)
    simp only [esOp, WtRow, WtT] at hx
    obtain ⟨_, _, rfl, ⟨a0, rfl, -⟩, _, _, rfl, ⟨a1, rfl, -⟩, _, _, rfl, ⟨a2, rfl, -⟩, rfl⟩ := hx
    simp only [rowsBulk, rowBulk, tbulk] at hb
    simp only [laws_toOpS_L0_0, T.int_i, T.rows_l, ix_row, ix_nx pre (by omega), set_row, List.getD_cons_zero, List.getD_cons_succ, List.set_cons_zero, List.set_cons_succ]
    rw [dec_t (by simp; omega), dec_t (by simp; omega)]
    rw [toOp_ok (by omega) a0 a1 a2, dec_t (by simp; omega), dec_t (by simp)]
    simpa using ih
theorem toOpS_ok {m : Nat} (hm : 1048603 ≤ m) (rows : List (List T)) (h : ∀ r ∈ rows, WtRow esOp r) (hb : rowsBulk rows ≤ 1048576) (k : T → An) : laws_toOpS m (.l rows) k = k (.l rows) := by
  obtain ⟨m, rfl⟩ : ∃ m', m = m' + 1 := ⟨m - 1, by omega⟩
  have hl := wtRows_len (by simp) h
  simp only [laws_toOpS, T.rows_l, T.int_i]
  rw [dec_t (by omega), dec_t (by unfold maxCells; omega)]
  exact toOpS_loop m (by omega) rows [] (List.replicate _ _) h hb (by simp) (fun r hr => by rw [List.eq_of_mem_replicate hr]; rfl) (by simp; omega) m (by omega) _
theorem szOp_ok {m : Nat} (hm : 1048602 ≤ m) (a0 : Int) (a1 : ByteArray) (a2 : ByteArray)  (l : Int) (hl : (rowSz [.i a0, .s a1, .s a2] : Int) ≤ l) (hl2 : l ≤ 1048576) (k : T → An) : laws_szOp m (.i a0) (.s a1) (.s a2) (.i l) k = k (.i (l - (rowSz [.i a0, .s a1, .s a2] : Nat))) := by
  obtain ⟨m, rfl⟩ : ∃ m', m = m' + 1 := ⟨m - 1, by omega⟩
  simp only [rowSz, tsz] at hl ⊢
  simp only [laws_szOp, T.rows_l, T.int_i, T.str_s]
  rw [show IntKind.i64.wrap (l - (a1.size : Int)) = l - (a1.size : Int) from wrap_i64 (by omega) (by omega)]
  rw [dec_f (by omega)]
  rw [show IntKind.i64.wrap ((l - (a1.size : Int)) - (a2.size : Int)) = (l - (a1.size : Int)) - (a2.size : Int) from wrap_i64 (by omega) (by omega)]
  rw [dec_f (by omega)]
  congr 2 <;> omega
theorem szOpS_loop (m : Nat) (hm : 1048602 ≤ m) : ∀ (post pre : List (List T)) (l : Int), (∀ r ∈ post, WtRow esOp r) → rowsBulk post ≤ 1048576 → (rowsSz post : Int) ≤ l → l ≤ 1048576 → pre.length + post.length ≤ 1048576 →
    ∀ n, post.length < n → ∀ k0 k1, laws_szOpS_L0_0 m n (.l (pre ++ post)) (.i l) (.i pre.length) k0 k1 = k1 (.i (l - rowsSz post))
  | [], pre, l, h, hb, hl, hl2, hs, n, hn, k0, k1 => by
    obtain ⟨n, rfl⟩ : ∃ m', n = m' + 1 := ⟨n - 1, by omega⟩
    simp only [laws_szOpS_L0_0, T.int_i, T.rows_l]
    rw [dec_f (by simp)]
    simp [rowsSz]
  | x :: post, pre, l, h, hb, hl, hl2, hs, n, hn, k0, k1 => by
    obtain ⟨n, rfl⟩ : ∃ m', n = m' + 1 := ⟨n - 1, by omega⟩
    simp only [List.length_cons] at hs hn
    simp only [rowsSz] at hl ⊢
    have ih := fun l hl hl2 => szOpS_loop m hm post (pre ++ [x]) l (fun r hr => h r (by simp [hr])) (by simp only [rowsBulk] at hb; omega) hl hl2 (by simp; omega) n (by omega) k0 k1
    have hx := h x (by simp)
    simp only [esOp, WtRow, WtT] at hx
    obtain ⟨_, _, rfl, ⟨a0, rfl, -⟩, _, _, rfl, ⟨a1, rfl, -⟩, _, _, rfl, ⟨a2, rfl, -⟩, rfl⟩ := hx
    simp only [rowsBulk, rowBulk, tbulk] at hb
    simp only [laws_szOpS_L0_0, T.int_i, T.rows_l, ix_row, ix_nx pre (by omega), List.getD_cons_zero, List.getD_cons_succ]
    rw [dec_t (by simp; omega), dec_t (by simp; omega)]
    rw [szOp_ok (by omega) a0 a1 a2 l (by omega) hl2, T.int_i, dec_f (by omega)]
    have := ih (l - (rowSz [.i a0, .s a1, .s a2] : Nat)) (by omega) (by omega)
    simp only [List.append_assoc, List.cons_append, List.nil_append, len_snoc] at this
    refine this.trans ?_
    congr 2; omega
theorem szOpS_ok {m : Nat} (hm : 1048603 ≤ m) (rows : List (List T)) (h : ∀ r ∈ rows, WtRow esOp r) (hb : rowsBulk rows ≤ 1048576) (l : Int) (hl : ((rows.length + rowsSz rows : Nat) : Int) ≤ l) (hl2 : l ≤ 1048576) (k : T → An) : laws_szOpS m (.l rows) (.i l) k = k (.i (l - (rows.length + rowsSz rows : Nat))) := by
  obtain ⟨m, rfl⟩ : ∃ m', m = m' + 1 := ⟨m - 1, by omega⟩
  have hlen := wtRows_len (by simp) h
  simp only [laws_szOpS, T.rows_l, T.int_i]
  rw [show IntKind.i64.wrap (l - (rows.length : Int)) = l - (rows.length : Int) from wrap_i64 (by omega) (by omega), dec_f (by omega)]
  refine (szOpS_loop m (by omega) rows [] (l - rows.length) h hb (by omega) (by omega) (by simp; omega) m (by omega) _ _).trans ?_
  congr 2; omega
abbrev esJob : List LT := [.sc (.int .i64), .sl esOp, .sc (.int .i64), .sl esInt]
theorem toJob_ok {m : Nat} (hm : 1048606 ≤ m) (a0 : Int) (a1 : List (List T)) (a2 : Int) (a3 : List (List T)) (h1 : ∀ r ∈ a1, WtRow esOp r) (b1 : rowsBulk a1 ≤ 1048576) (h3 : ∀ r ∈ a3, WtRow esInt r) (b3 : rowsBulk a3 ≤ 1048576) (k : T → T → T → T → An) : laws_toJob m (.i a0) (.l a1) (.i a2) (.l a3) k = k (.i a0) (.l a1) (.i a2) (.l a3) := by
  obtain ⟨m, rfl⟩ : ∃ m', m = m' + 1 := ⟨m - 1, by omega⟩
  simp only [laws_toJob, T.rows_l]
  rw [toOpS_ok (by omega) a1 h1 b1]
  try simp only [T.rows_l]
  rw [toIntS_ok (by omega) a3 h3 b3]
  try simp only [T.rows_l]
theorem toJobS_loop (m : Nat) (hm : 1048606 ≤ m) : ∀ (post pre z : List (List T)), (∀ r ∈ post, WtRow esJob r) → rowsBulk post ≤ 1048576 → z.length = post.length → (∀ r ∈ z, r.length = 4) → pre.length + post.length ≤ 1048576 →
    ∀ n, post.length < n → ∀ k0, laws_toJobS_L0_0 m n (.l (pre ++ post)) (.i pre.length) (.l (pre ++ z)) k0 = k0 (.l (pre ++ post))
  | [], pre, z, h, hb, hz, hz2, hs, n, hn, k0 => by
    obtain ⟨n, rfl⟩ : ∃ m', n = m' + 1 := ⟨n - 1, by omega⟩
    obtain rfl : z = [] := List.eq_nil_of_length_eq_zero hz
    simp only [laws_toJobS_L0_0, T.int_i, T.rows_l]
    rw [dec_f (by simp)]
  | x :: post, pre, z, h, hb, hz, hz2, hs, n, hn, k0 => by
    obtain ⟨n, rfl⟩ : ∃ m', n = m' + 1 := ⟨n - 1, by omega⟩
    simp only [List.length_cons] at hs hn hz
    match z, hz, hz2 with
    | r :: z, hz, hz2 =>
    simp only [List.length_cons] at hz
    match r, hz2 r (by simp) with
    | [c0, c1, c2, c3], _ =>
    have ih := toJobS_loop m hm post (pre ++ [x]) z (fun r hr => h r (by simp [hr])) (by simp only [rowsBulk] at hb; omega) (by omega) (fun r hr => hz2 r (by simp [hr])) (by simp; omega) n (by omega) k0
    have hx := h x (by simp)
    simp only [esJob, WtRow, WtT] at hx
    obtain ⟨_, _, rfl, ⟨a0, rfl, -⟩, _, _, rfl, ⟨a1, rfl, h1⟩, _, _, rfl, ⟨a2, rfl, -⟩, _, _, rfl, ⟨a3, rfl, h3⟩, rfl⟩ := hx
    simp only [rowsBulk, rowBulk, tbulk] at hb
    simp only [laws_toJobS_L0_0, T.int_i, T.rows_l, ix_row, ix_nx pre (by omega), set_row, List.getD_cons_zero, List.getD_cons_succ, List.set_cons_zero, List.set_cons_succ]
    rw [dec_t (by simp; omega), dec_t (by simp; omega)]
    rw [toJob_ok (by omega) a0 a1 a2 a3 h1 (by omega) h3 (by omega), dec_t (by simp; omega), dec_t (by simp)]
    simpa using ih
theorem toJobS_ok {m : Nat} (hm : 1048607 ≤ m) (rows : List (List T)) (h : ∀ r ∈ rows, WtRow esJob r) (hb : rowsBulk rows ≤ 1048576) (k : T → An) : laws_toJobS m (.l rows) k = k (.l rows) := by
  obtain ⟨m, rfl⟩ : ∃ m', m = m' + 1 := ⟨m - 1, by omega⟩
  have hl := wtRows_len (by simp) h
  simp only [laws_toJobS, T.rows_l, T.int_i]
  rw [dec_t (by omega), dec_t (by unfold maxCells; omega)]
  exact toJobS_loop m (by omega) rows [] (List.replicate _ _) h hb (by simp) (fun r hr => by rw [List.eq_of_mem_replicate hr]; rfl) (by simp; omega) m (by omega) _
theorem szJob_ok {m : Nat} (hm : 1048606 ≤ m) (a0 : Int) (a1 : List (List T)) (a2 : Int) (a3 : List (List T)) (h1 : ∀ r ∈ a1, WtRow esOp r) (b1 : rowsBulk a1 ≤ 1048576) (h3 : ∀ r ∈ a3, WtRow esInt r) (b3 : rowsBulk a3 ≤ 1048576) (l : Int) (hl : (rowSz [.i a0, .l a1, .i a2, .l a3] : Int) ≤ l) (hl2 : l ≤ 1048576) (k : T → An) : laws_szJob m (.i a0) (.l a1) (.i a2) (.l a3) (.i l) k = k (.i (l - (rowSz [.i a0, .l a1, .i a2, .l a3] : Nat))) := by
  obtain ⟨m, rfl⟩ : ∃ m', m = m' + 1 := ⟨m - 1, by omega⟩
  simp only [rowSz, tsz] at hl ⊢
  simp only [laws_szJob, T.rows_l, T.int_i, T.str_s]
  rw [szOpS_ok (by omega) a1 h1 b1 l (by omega) (by omega), T.int_i, dec_f (by omega)]
  rw [szIntS_ok (by omega) a3 h3 b3 (l - ((a1.length + rowsSz a1 : Nat) : Int)) (by omega) (by omega), T.int_i, dec_f (by omega)]
  congr 2 <;> omega
theorem szJobS_loop (m : Nat) (hm : 1048606 ≤ m) : ∀ (post pre : List (List T)) (l : Int), (∀ r ∈ post, WtRow esJob r) → rowsBulk post ≤ 1048576 → (rowsSz post : Int) ≤ l → l ≤ 1048576 → pre.length + post.length ≤ 1048576 →
    ∀ n, post.length < n → ∀ k0 k1, laws_szJobS_L0_0 m n (.l (pre ++ post)) (.i l) (.i pre.length) k0 k1 = k1 (.i (l - rowsSz post))
  | [], pre, l, h, hb, hl, hl2, hs, n, hn, k0, k1 => by
    obtain ⟨n, rfl⟩ : ∃ m', n = m' + 1 := ⟨n - 1, by omega⟩
    simp only [laws_szJobS_L0_0, T.int_i, T.rows_l]
    rw [dec_f (by simp)]
    simp [rowsSz]
  | x :: post, pre, l, h, hb, hl, hl2, hs, n, hn, k0, k1 => by
    obtain ⟨n, rfl⟩ : ∃ m', n = m' + 1 := ⟨n - 1, by omega⟩
    simp only [List.length_cons] at hs hn
    simp only [rowsSz] at hl ⊢
    have ih := fun l hl hl2 => szJobS_loop m hm post (pre ++ [x]) l (fun r hr => h r (by simp [hr])) (by simp only [rowsBulk] at hb; omega) hl hl2 (by simp; omega) n (by omega) k0 k1
    have hx := h x (by simp)
    simp only [esJob, WtRow, WtT] at hx
    obtain ⟨_, _, rfl, ⟨a0, rfl, -⟩, _, _, rfl, ⟨a1, rfl, h1⟩, _, _, rfl, ⟨a2, rfl, -⟩, _, _, rfl, ⟨a3, rfl, h3⟩, rfl⟩ := hx
    simp only [rowsBulk, rowBulk, tbulk] at hb
    simp only [laws_szJobS_L0_0, T.int_i, T.rows_l, ix_row, ix_nx pre (by omega), List.getD_cons_zero, List.getD_cons_succ]
    rw [dec_t (by simp; omega), dec_t (by simp; omega)]
    rw [szJob_ok (by omega) a0 a1 a2 a3 h1 (by omega) h3 (by omega) l (by omega) hl2, T.int_i, dec_f (by omega)]
    have := ih (l - (rowSz [.i a0, .l a1, .i a2, .l a3] : Nat)) (by omega) (by omega)
    simp only [List.append_assoc, List.cons_append, List.nil_append, len_snoc] at this
    refine this.trans ?_
    congr 2; omega
theorem szJobS_ok {m : Nat} (hm : 1048607 ≤ m) (rows : List (List T)) (h : ∀ r ∈ rows, WtRow esJob r) (hb : rowsBulk rows ≤ 1048576) (l : Int) (hl : ((rows.length + rowsSz rows : Nat) : Int) ≤ l) (hl2 : l ≤ 1048576) (k : T → An) : laws_szJobS m (.l rows) (.i l) k = k (.i (l - (rows.length + rowsSz rows : Nat))) := by
  obtain ⟨m, rfl⟩ : ∃ m', m = m' + 1 := ⟨m - 1, by omega⟩
  have hlen := wtRows_len (by simp) h
  simp only [laws_szJobS, T.rows_l, T.int_i]
  rw [show IntKind.i64.wrap (l - (rows.length : Int)) = l - (rows.length : Int) from wrap_i64 (by omega) (by omega), dec_f (by omega)]
  refine (szJobS_loop m (by omega) rows [] (l - rows.length) h hb (by omega) (by omega) (by simp; omega) m (by omega) _ _).trans ?_
  congr 2; omega
abbrev esChoice : List LT := [.sc (.int .i64), .sc .bool]
theorem toChoice_ok {m : Nat} (hm : 1048602 ≤ m) (a0 : Int) (a1 : Bool)  (k : T → T → An) : laws_toChoice m (.i a0) (.b a1) k = k (.i a0) (.b a1) := by
  obtain ⟨m, rfl⟩ : ∃ m', m = m' + 1 := ⟨m - 1, by omega⟩
  simp only [laws_toChoice, T.rows_l]
theorem toChoiceS_loop (m : Nat) (hm : 1048602 ≤ m) : ∀ (post pre z : List (List T)), (∀ r ∈ post, WtRow esChoice r) → rowsBulk post ≤ 1048576 → z.length = post.length → (∀ r ∈ z, r.length = 2) → pre.length + post.length ≤ 1048576 →
    ∀ n, post.length < n → ∀ k0, laws_toChoiceS_L0_0 m n (.l (pre ++ post)) (.i pre.length) (.l (pre ++ z)) k0 = k0 (.l (pre ++ post))
  | [], pre, z, h, hb, hz, hz2, hs, n, hn, k0 => by
    obtain ⟨n, rfl⟩ : ∃ m', n = m' + 1 := ⟨n - 1, by omega⟩
    obtain rfl : z = [] := List.eq_nil_of_length_eq_zero hz
    simp only [laws_toChoiceS_L0_0, T.int_i, T.rows_l]
    rw [dec_f (by simp)]
  | x :: post, pre, z, h, hb, hz, hz2, hs, n, hn, k0 => by
    obtain ⟨n, rfl⟩ : ∃ m', n = m' + 1 := ⟨n - 1, by omega⟩
    simp only [List.length_cons] at hs hn hz
    match z, hz, hz2 with
    | r :: z, hz, hz2 =>
    simp only [List.length_cons] at hz
    match r, hz2 r (by simp) with
    | [c0, c1], _ =>
    have ih := toChoiceS_loop m hm post (pre ++ [x]) z (fun r hr => h r (by simp [hr])) (by simp only [rowsBulk] at hb; omega) (by omega) (fun r hr => hz2 r (by simp [hr])) (by simp; omega) n (by omega) k0
    have hx := h x (by simp)
    simp only [esChoice, WtRow, WtT] at hx
    obtain ⟨_, _, rfl, ⟨a0, rfl, -⟩, _, _, rfl, ⟨a1, rfl⟩, rfl⟩ := hx
    simp only [rowsBulk, rowBulk, tbulk] at hb
    simp only [laws_toChoiceS_L0_0, T.int_i, T.rows_l, ix_row, ix_nx pre (by omega), set_row, List.getD_cons_zero, List.getD_cons_succ, List.set_cons_zero, List.set_cons_succ]
    rw [dec_t (by simp; omega), dec_t (by simp; omega)]
    rw [toChoice_ok (by omega) a0 a1, dec_t (by simp; omega), dec_t (by simp)]
    simpa using ih
theorem toChoiceS_ok {m : Nat} (hm : 1048603 ≤ m) (rows : List (List T)) (h : ∀ r ∈ rows, WtRow esChoice r) (hb : rowsBulk rows ≤ 1048576) (k : T → An) : laws_toChoiceS m (.l rows) k = k (.l rows) := by
  obtain ⟨m, rfl⟩ : ∃ m', m = m' + 1 := ⟨m - 1, by omega⟩
  have hl := wtRows_len (by simp) h
  simp only [laws_toChoiceS, T.rows_l, T.int_i]
  rw [dec_t (by omega), dec_t (by unfold maxCells; omega)]
  exact toChoiceS_loop m (by omega) rows [] (List.replicate _ _) h hb (by simp) (fun r hr => by rw [List.eq_of_mem_replicate hr]; rfl) (by simp; omega) m (by omega) _
theorem rowsChoice_sz : ∀ {rows : List (List T)}, (∀ r ∈ rows, WtRow esChoice r) → rowsSz rows = 0
  | [], _ => rfl
  | x :: rows, h => by
    have ih := rowsChoice_sz (rows := rows) fun r hr => h r (by simp [hr])
    have hx := h x (by simp)
    simp only [esChoice, WtRow, WtT] at hx
    obtain ⟨_, _, rfl, ⟨a0, rfl, -⟩, _, _, rfl, ⟨a1, rfl⟩, rfl⟩ := hx
    simp only [rowsSz, rowSz, tsz, ih]
theorem szChoiceS_ok {m : Nat} (hm : 1048603 ≤ m) (rows : List (List T)) (h : ∀ r ∈ rows, WtRow esChoice r) (hb : rowsBulk rows ≤ 1048576) (l : Int) (hl : ((rows.length + rowsSz rows : Nat) : Int) ≤ l) (hl2 : l ≤ 1048576) (k : T → An) : laws_szChoiceS m (.l rows) (.i l) k = k (.i (l - (rows.length + rowsSz rows : Nat))) := by
  obtain ⟨m, rfl⟩ : ∃ m', m = m' + 1 := ⟨m - 1, by omega⟩
  have e := rowsChoice_sz h
  rw [e] at hl ⊢
  have hlen := wtRows_len (by simp) h
  simp only [laws_szChoiceS, T.rows_l, T.int_i]
  rw [show IntKind.i64.wrap (l - (rows.length : Int)) = l - (rows.length : Int) from wrap_i64 (by omega) (by omega), dec_f (by omega)]
  congr 2
abbrev esCoord : List LT := [.sc (.int .i64), .sc (.int .i64), .sc (.int .i64), .sl esJob, .sl esChoice, .sc (.int .i64)]
theorem toCoord_ok {m : Nat} (hm : 1048610 ≤ m) (a0 : Int) (a1 : Int) (a2 : Int) (a3 : List (List T)) (a4 : List (List T)) (a5 : Int) (h3 : ∀ r ∈ a3, WtRow esJob r) (b3 : rowsBulk a3 ≤ 1048576) (h4 : ∀ r ∈ a4, WtRow esChoice r) (b4 : rowsBulk a4 ≤ 1048576) (k : T → T → T → T → T → T → An) : laws_toCoord m (.i a0) (.i a1) (.i a2) (.l a3) (.l a4) (.i a5) k = k (.i a0) (.i a1) (.i a2) (.l a3) (.l a4) (.i a5) := by
  obtain ⟨m, rfl⟩ : ∃ m', m = m' + 1 := ⟨m - 1, by omega⟩
  simp only [laws_toCoord, T.rows_l]
  rw [toJobS_ok (by omega) a3 h3 b3]
  try simp only [T.rows_l]
  rw [toChoiceS_ok (by omega) a4 h4 b4]
  try simp only [T.rows_l]
theorem szCoord_ok {m : Nat} (hm : 1048610 ≤ m) (a0 : Int) (a1 : Int) (a2 : Int) (a3 : List (List T)) (a4 : List (List T)) (a5 : Int) (h3 : ∀ r ∈ a3, WtRow esJob r) (b3 : rowsBulk a3 ≤ 1048576) (h4 : ∀ r ∈ a4, WtRow esChoice r) (b4 : rowsBulk a4 ≤ 1048576) (l : Int) (hl : (rowSz [.i a0, .i a1, .i a2, .l a3, .l a4, .i a5] : Int) ≤ l) (hl2 : l ≤ 1048576) (k : T → An) : laws_szCoord m (.i a0) (.i a1) (.i a2) (.l a3) (.l a4) (.i a5) (.i l) k = k (.i (l - (rowSz [.i a0, .i a1, .i a2, .l a3, .l a4, .i a5] : Nat))) := by
  obtain ⟨m, rfl⟩ : ∃ m', m = m' + 1 := ⟨m - 1, by omega⟩
  simp only [rowSz, tsz] at hl ⊢
  simp only [laws_szCoord, T.rows_l, T.int_i, T.str_s]
  rw [szJobS_ok (by omega) a3 h3 b3 l (by omega) (by omega), T.int_i, dec_f (by omega)]
  rw [szChoiceS_ok (by omega) a4 h4 b4 (l - ((a3.length + rowsSz a3 : Nat) : Int)) (by omega) (by omega), T.int_i, dec_f (by omega)]
  congr 2 <;> omega
abbrev esWord : List LT := [.sc (.int .i64), .sc (.int .i64), .sc (.int .i64), .sl esOp, .sc .bool]
end Go.Proofs.YtajahiglgcogeaaGreat

namespace Go.Proofs.YtajahiglgcogeaaGreat
open Go Go.E Go.Proofs
def ir (l : List Int) : List (List T) := l.map iRow
theorem ir_len (l : List Int) : (ir l).length = l.length := by simp [ir]
def BInts (l : List Int) : Prop := l.length ≤ 1048576
theorem of_Int : ∀ {rows : List (List T)}, (∀ r ∈ rows, WtRow esInt r) → rowsBulk rows ≤ 1048576 → ∃ l : List Int, rows = ir l ∧ BInts l := fun {rows} h hb => by
  have key : ∀ rows : List (List T), (∀ r ∈ rows, WtRow esInt r) → ∃ l : List Int, rows = ir l := fun rows => by
    induction rows with
    | nil => exact fun _ => ⟨[], rfl⟩
    | cons x rows ih =>
      intro h
      obtain ⟨l, rfl⟩ := ih fun r hr => h r (by simp [hr])
      have hx := h x (by simp)
      simp only [esInt, WtRow, WtT] at hx
      obtain ⟨_, _, rfl, ⟨a, rfl, -⟩, rfl⟩ := hx
      exact ⟨a :: l, rfl⟩
  obtain ⟨l, rfl⟩ := key rows h
  have := wtRows_len (es := esInt) (by simp) h
  exact ⟨l, rfl, by unfold BInts; rw [ir_len] at this; omega⟩
structure DOp where
  kind : Int
  key : ByteArray
  val : ByteArray
  deriving Inhabited
def DOp.r (x : DOp) : List T := [.i x.kind, .s x.key, .s x.val]
def BOp (x : DOp) : Prop := x.key.size ≤ 1048576 ∧ x.val.size ≤ 1048576
def BOps (l : List DOp) : Prop := l.length ≤ 1048576 ∧ ∀ x ∈ l, BOp x
theorem of_Op0 : ∀ {rows : List (List T)}, (∀ r ∈ rows, WtRow esOp r) → rowsBulk rows ≤ 1048576 → ∃ l : List DOp, rows = l.map DOp.r ∧ ∀ x ∈ l, BOp x
  | [], _, _ => ⟨[], rfl, fun x h => (by cases h)⟩
  | x :: rows, h, hb => by
    have hx := h x (by simp)
    simp only [esOp, WtRow, WtT] at hx
    obtain ⟨_, _, rfl, ⟨a0, rfl, -⟩, _, _, rfl, ⟨a1, rfl, -⟩, _, _, rfl, ⟨a2, rfl, -⟩, rfl⟩ := hx
    simp only [rowsBulk, rowBulk, tbulk] at hb
    obtain ⟨l, rfl, hl⟩ := of_Op0 (rows := rows) (fun r hr => h r (by simp [hr])) (by omega)
    refine ⟨⟨a0, a1, a2⟩ :: l, rfl, fun y hy => ?_⟩
    rcases List.mem_cons.1 hy with rfl | hy
    · exact ⟨by simp only; omega, by simp only; omega⟩
    · exact hl y hy
theorem of_Op {rows : List (List T)} (h : ∀ r ∈ rows, WtRow esOp r) (hb : rowsBulk rows ≤ 1048576) : ∃ l : List DOp, rows = l.map DOp.r ∧ BOps l := by
  obtain ⟨l, rfl, hl⟩ := of_Op0 h hb
  have := wtRows_len (es := esOp) (by simp) h
  exact ⟨l, rfl, by simp at this; omega, hl⟩
structure DJob where
  tx : Int
  ops : List DOp
  state : Int
  yes : List Int
  deriving Inhabited
def DJob.r (x : DJob) : List T := [.i x.tx, .l (x.ops.map DOp.r), .i x.state, .l (ir x.yes)]
def BJob (x : DJob) : Prop := BOps x.ops ∧ BInts x.yes
def BJobs (l : List DJob) : Prop := l.length ≤ 1048576 ∧ ∀ x ∈ l, BJob x
theorem of_Job0 : ∀ {rows : List (List T)}, (∀ r ∈ rows, WtRow esJob r) → rowsBulk rows ≤ 1048576 → ∃ l : List DJob, rows = l.map DJob.r ∧ ∀ x ∈ l, BJob x
  | [], _, _ => ⟨[], rfl, fun x h => (by cases h)⟩
  | x :: rows, h, hb => by
    have hx := h x (by simp)
    simp only [esJob, WtRow, WtT] at hx
    obtain ⟨_, _, rfl, ⟨a0, rfl, -⟩, _, _, rfl, ⟨a1, rfl, h1⟩, _, _, rfl, ⟨a2, rfl, -⟩, _, _, rfl, ⟨a3, rfl, h3⟩, rfl⟩ := hx
    simp only [rowsBulk, rowBulk, tbulk] at hb
    obtain ⟨l, rfl, hl⟩ := of_Job0 (rows := rows) (fun r hr => h r (by simp [hr])) (by omega)
    obtain ⟨l1, rfl, b1⟩ := of_Op (rows := a1) h1 (by omega)
    obtain ⟨l3, rfl, b3⟩ := of_Int (rows := a3) h3 (by omega)
    refine ⟨⟨a0, l1, a2, l3⟩ :: l, rfl, fun y hy => ?_⟩
    rcases List.mem_cons.1 hy with rfl | hy
    · exact ⟨b1, b3⟩
    · exact hl y hy
theorem of_Job {rows : List (List T)} (h : ∀ r ∈ rows, WtRow esJob r) (hb : rowsBulk rows ≤ 1048576) : ∃ l : List DJob, rows = l.map DJob.r ∧ BJobs l := by
  obtain ⟨l, rfl, hl⟩ := of_Job0 h hb
  have := wtRows_len (es := esJob) (by simp) h
  exact ⟨l, rfl, by simp at this; omega, hl⟩
structure DChoice where
  tx : Int
  yes : Bool
  deriving Inhabited
def DChoice.r (x : DChoice) : List T := [.i x.tx, .b x.yes]
def BChoice (x : DChoice) : Prop := True
def BChoices (l : List DChoice) : Prop := l.length ≤ 1048576 ∧ ∀ x ∈ l, BChoice x
theorem of_Choice0 : ∀ {rows : List (List T)}, (∀ r ∈ rows, WtRow esChoice r) → rowsBulk rows ≤ 1048576 → ∃ l : List DChoice, rows = l.map DChoice.r ∧ ∀ x ∈ l, BChoice x
  | [], _, _ => ⟨[], rfl, fun x h => (by cases h)⟩
  | x :: rows, h, hb => by
    have hx := h x (by simp)
    simp only [esChoice, WtRow, WtT] at hx
    obtain ⟨_, _, rfl, ⟨a0, rfl, -⟩, _, _, rfl, ⟨a1, rfl⟩, rfl⟩ := hx
    simp only [rowsBulk, rowBulk, tbulk] at hb
    obtain ⟨l, rfl, hl⟩ := of_Choice0 (rows := rows) (fun r hr => h r (by simp [hr])) (by omega)
    refine ⟨⟨a0, a1⟩ :: l, rfl, fun y hy => ?_⟩
    rcases List.mem_cons.1 hy with rfl | hy
    · exact trivial
    · exact hl y hy
theorem of_Choice {rows : List (List T)} (h : ∀ r ∈ rows, WtRow esChoice r) (hb : rowsBulk rows ≤ 1048576) : ∃ l : List DChoice, rows = l.map DChoice.r ∧ BChoices l := by
  obtain ⟨l, rfl, hl⟩ := of_Choice0 h hb
  have := wtRows_len (es := esChoice) (by simp) h
  exact ⟨l, rfl, by simp at this; omega, hl⟩
structure DWord where
  kind : Int
  shard : Int
  tx : Int
  ops : List DOp
  yes : Bool
  deriving Inhabited
def DWord.r (x : DWord) : List T := [.i x.kind, .i x.shard, .i x.tx, .l (x.ops.map DOp.r), .b x.yes]
def BWord (x : DWord) : Prop := BOps x.ops
def BWords (l : List DWord) : Prop := l.length ≤ 1048576 ∧ ∀ x ∈ l, BWord x
theorem of_Word0 : ∀ {rows : List (List T)}, (∀ r ∈ rows, WtRow esWord r) → rowsBulk rows ≤ 1048576 → ∃ l : List DWord, rows = l.map DWord.r ∧ ∀ x ∈ l, BWord x
  | [], _, _ => ⟨[], rfl, fun x h => (by cases h)⟩
  | x :: rows, h, hb => by
    have hx := h x (by simp)
    simp only [esWord, WtRow, WtT] at hx
    obtain ⟨_, _, rfl, ⟨a0, rfl, -⟩, _, _, rfl, ⟨a1, rfl, -⟩, _, _, rfl, ⟨a2, rfl, -⟩, _, _, rfl, ⟨a3, rfl, h3⟩, _, _, rfl, ⟨a4, rfl⟩, rfl⟩ := hx
    simp only [rowsBulk, rowBulk, tbulk] at hb
    obtain ⟨l, rfl, hl⟩ := of_Word0 (rows := rows) (fun r hr => h r (by simp [hr])) (by omega)
    obtain ⟨l3, rfl, b3⟩ := of_Op (rows := a3) h3 (by omega)
    refine ⟨⟨a0, a1, a2, l3, a4⟩ :: l, rfl, fun y hy => ?_⟩
    rcases List.mem_cons.1 hy with rfl | hy
    · exact b3
    · exact hl y hy
theorem of_Word {rows : List (List T)} (h : ∀ r ∈ rows, WtRow esWord r) (hb : rowsBulk rows ≤ 1048576) : ∃ l : List DWord, rows = l.map DWord.r ∧ BWords l := by
  obtain ⟨l, rfl, hl⟩ := of_Word0 h hb
  have := wtRows_len (es := esWord) (by simp) h
  exact ⟨l, rfl, by simp at this; omega, hl⟩
end Go.Proofs.YtajahiglgcogeaaGreat

namespace Go.Proofs.YtajahiglgcogeaaGreat
open Go Go.E Go.Proofs
theorem wr1 {k : Nat} (h : k ≤ 4000000) : IntKind.i64.wrap ((k : Int) + 1) = ((k + 1 : Nat) : Int) := by
  rw [wrap_i64 (by omega) (by omega)]; omega
/-- the digits of a number, ahead of a text -/
def digs : Nat → Nat → ByteArray → ByteArray
  | 0, _, acc => acc
  | n + 1, k, acc => if k = 0 then acc else digs n (k / 10) (rowsBytes [[(T.i (IntKind.u8.wrap (IntKind.i64.wrap (48 + (Int.tmod (k : Int) 10)))))]] ++ acc)
theorem digs_size : ∀ (n k : Nat) (acc : ByteArray), (digs n k acc).size ≤ acc.size + k
  | 0, k, acc => by simp [digs]
  | n + 1, k, acc => by
    unfold digs
    split
    · omega
    · have := digs_size n (k / 10) (rowsBytes [[(T.i (IntKind.u8.wrap (IntKind.i64.wrap (48 + (Int.tmod (k : Int) 10)))))]] ++ acc)
      rw [ba_app_size] at this
      have e : (rowsBytes [[(T.i (IntKind.u8.wrap (IntKind.i64.wrap (48 + (Int.tmod (k : Int) 10)))))]]).size = 1 := rfl
      omega
theorem text_loop (m : Nat) : ∀ (n k : Nat) (acc : ByteArray), k < n → acc.size + k ≤ 4611686018427387904 → ∀ K, laws_markText_L0_0 m n (.i k) (.s acc) K = K (.s (digs n k acc))
  | 0, k, acc, h, hs, K => by omega
  | n + 1, k, acc, h, hs, K => by
    unfold digs
    simp only [laws_markText_L0_0, T.int_i, T.str_s]
    by_cases hk : k = 0
    · subst hk
      rw [dec_f (by omega), if_pos rfl]
    · have e : (rowsBytes [[(T.i (IntKind.u8.wrap (IntKind.i64.wrap (48 + (Int.tmod (k : Int) 10)))))]]).size = 1 := rfl
      rw [dec_t (by omega), dec_t (by rw [e]; omega), if_neg hk]
      have e2 : Int.tdiv (k : Int) 10 = ((k / 10 : Nat) : Int) := rfl
      rw [e2, wrap_i64 (by omega) (by omega)]
      exact text_loop m n (k / 10) _ (by omega) (by rw [ba_app_size, e]; omega) K
def mtB (m k : Nat) : ByteArray := (⟨#[109]⟩ : ByteArray) ++ digs (m - 1) k ⟨#[]⟩
theorem markText_ok {m : Nat} (hm : 4000010 ≤ m) {k : Nat} (h0 : 0 < k) (hk : k ≤ 4000000) (K : T → An) : laws_markText m (.i k) K = K (.s (mtB m k)) := by
  obtain ⟨m, rfl⟩ : ∃ m', m = m' + 1 := ⟨m - 1, by omega⟩
  have hz := digs_size m k ⟨#[]⟩
  have e0 : (⟨#[]⟩ : ByteArray).size = 0 := rfl
  have e1 : (⟨#[109]⟩ : ByteArray).size = 1 := rfl
  simp only [laws_markText, T.int_i]
  rw [dec_f (by omega), text_loop m m k _ (by omega) (by rw [e0]; omega)]
  simp only [T.str_s]
  rw [dec_t (by rw [e1]; omega)]
  rfl
def shInt : List (List T) → Prop
  | [] => True
  | r :: rs => (r.length = 1) ∧ shInt rs
def ctInt : List (List T) → Nat
  | [] => 0
  | r :: rs => (1) + ctInt rs
def mkInt (m : Nat) : Nat → List (List T) → List (List T)
  | _, [] => []
  | k, r :: rs => [.i ((k : Nat) : Int)] :: mkInt m ((k + 1)) rs
theorem mkInt_len (m : Nat) : ∀ rs k, (mkInt m k rs).length = rs.length
  | [], k => rfl
  | r :: rs, k => by simp [mkInt, mkInt_len m rs]
theorem markIntS_loop (m : Nat) (hm : 4000022 ≤ m) : ∀ (post pre : List (List T)) (k : Nat), shInt post → 0 < k → k + ctInt post ≤ 4000000 → pre.length + post.length ≤ 1048576 → ∀ n, post.length < n → ∀ k0,
    laws_markIntS_L0_0 m n (.i k) (.i pre.length) (.l (pre ++ post)) k0 = k0 (.i ((k + ctInt post : Nat) : Int)) (.l (pre ++ mkInt m k post))
  | [], pre, k, h, hk, hb, hs, n, hn, k0 => by
    obtain ⟨n, rfl⟩ : ∃ m', n = m' + 1 := ⟨n - 1, by omega⟩
    simp only [laws_markIntS_L0_0, T.int_i, T.rows_l]
    rw [dec_f (by simp)]
    rfl
  | x :: post, pre, k, h, hk, hb, hs, n, hn, k0 => by
    obtain ⟨n, rfl⟩ : ∃ m', n = m' + 1 := ⟨n - 1, by omega⟩
    simp only [List.length_cons] at hs hn
    obtain ⟨hx, hp⟩ := h
    have hz := hx
    match x, hz with
    | [c0], _ =>
    simp only [ctInt, List.getD_cons_zero, List.getD_cons_succ] at hb
    have ih := markIntS_loop m hm post (pre ++ [[.i ((k : Nat) : Int)]]) ((k + 1)) hp (by omega) (by omega) (by simp; omega) n (by omega) k0
    rw [len_snoc, List.append_assoc, List.singleton_append, List.append_assoc, List.singleton_append] at ih
    simp only [laws_markIntS_L0_0, T.int_i, T.rows_l, ix_row, set_row, List.set_cons_zero, List.set_cons_succ, List.tail_cons, List.headD_cons, List.getD_cons_zero, List.getD_cons_succ, ix_nx pre (by omega), wr1 (k := k) (by omega)]
    rw [dec_t (by simp <;> omega)]
    repeat (first | rw [dec_t (by simp <;> omega)] | rw [markText_ok (by omega) (by omega) (by omega)])
    refine ih.trans ?_
    have e : (k + 1) + ctInt post = k + (ctInt ([c0] :: post)) := by simp only [ctInt, List.getD_cons_zero, List.getD_cons_succ]; omega
    rw [e]
    rfl
theorem markIntS_ok {m : Nat} (hm : 4000023 ≤ m) (rows : List (List T)) (h : shInt rows) (hl : rows.length ≤ 1048576) (k : Nat) (hk : 0 < k) (hs : k + ctInt rows ≤ 4000000) (K : T → T → An) :
    laws_markIntS m (.l rows) (.i k) K = K (.i ((k + ctInt rows : Nat) : Int)) (.l (mkInt (m - 1) k rows)) := by
  obtain ⟨m, rfl⟩ : ∃ m', m = m' + 1 := ⟨m - 1, by omega⟩
  simp only [laws_markIntS, T.rows_l]
  exact (markIntS_loop m (by omega) rows [] k h hk hs (by simpa using hl) m (by omega) _)
theorem heldIntS_loop (m : Nat) (hm : 4000022 ≤ m) (l : List (List T)) : ∀ (post pre : List (List T)) (k : Nat), l = pre ++ mkInt m k post → shInt post → 0 < k → k + ctInt post ≤ 4000000 → pre.length + post.length ≤ 1048576 → ∀ n, post.length < n → ∀ k0 k1,
    laws_heldIntS_L0_0 m n (.l l) (.i k) (.i pre.length) k0 k1 = k1 (.i ((k + ctInt post : Nat) : Int))
  | [], pre, k, he, h, hk, hb, hs, n, hn, k0, k1 => by
    obtain ⟨n, rfl⟩ : ∃ m', n = m' + 1 := ⟨n - 1, by omega⟩
    subst he
    simp only [laws_heldIntS_L0_0, T.int_i, T.rows_l]
    rw [dec_f (by simp [mkInt])]
    rfl
  | x :: post, pre, k, he, h, hk, hb, hs, n, hn, k0, k1 => by
    obtain ⟨n, rfl⟩ : ∃ m', n = m' + 1 := ⟨n - 1, by omega⟩
    simp only [List.length_cons] at hs hn
    obtain ⟨hx, hp⟩ := h
    have hz := hx
    match x, hz with
    | [c0], _ =>
    simp only [ctInt, List.getD_cons_zero, List.getD_cons_succ] at hb
    have ih := heldIntS_loop m hm l post (pre ++ [[.i ((k : Nat) : Int)]]) ((k + 1)) (by rw [he]; simp [mkInt]) hp (by omega) (by omega) (by simp; omega) n (by omega) k0 k1
    rw [len_snoc] at ih
    subst he
    have hml := mkInt_len m post ((k + 1))
    simp only [laws_heldIntS_L0_0, T.int_i, T.rows_l, T.str_s, T.bool_b, mkInt, ix_row, List.drop_succ_cons, List.drop_zero, List.getD_cons_zero, List.getD_cons_succ, ix_nx pre (by omega), wr1 (k := k) (by omega), beq_toList_self, bne_self_eq_false, beq_self_eq_true, Bool.not_true, cond_false]
    rw [dec_t (by simp <;> omega)]
    repeat (first | rw [dec_t (by simp <;> omega)] | rw [markText_ok (by omega) (by omega) (by omega)] | rw [dec_f (by omega)] | simp only [T.int_i, T.rows_l, T.str_s, T.bool_b, mkInt, ix_row, List.drop_succ_cons, List.drop_zero, List.getD_cons_zero, List.getD_cons_succ, ix_nx pre (by omega), wr1 (k := k) (by omega), beq_toList_self, bne_self_eq_false, beq_self_eq_true, Bool.not_true, cond_false])
    refine ih.trans ?_
    have e : (k + 1) + ctInt post = k + (ctInt ([c0] :: post)) := by simp only [ctInt, List.getD_cons_zero, List.getD_cons_succ]; omega
    rw [e]
theorem heldIntS_ok {m : Nat} (hm : 4000023 ≤ m) (rows : List (List T)) (h : shInt rows) (hl : rows.length ≤ 1048576) (k : Nat) (hk : 0 < k) (hs : k + ctInt rows ≤ 4000000) (K : T → An) :
    laws_heldIntS m (.l (mkInt (m - 1) k rows)) (.i k) K = K (.i ((k + ctInt rows : Nat) : Int)) := by
  obtain ⟨m, rfl⟩ : ∃ m', m = m' + 1 := ⟨m - 1, by omega⟩
  simp only [laws_heldIntS, T.rows_l]
  exact heldIntS_loop m (by omega) _ rows [] k rfl h hk hs (by simpa using hl) m (by omega) _ _
theorem eqvIntS_loop (m : Nat) (hm : 4000022 ≤ m) : ∀ (post pre : List (List T)), shInt post → pre.length + post.length ≤ 1048576 → ∀ n, post.length < n → ∀ k0 k1, laws_eqIntS_L0_0 m n (.l (pre ++ post)) (.l (pre ++ post)) (.i pre.length) k0 k1 = k1
  | [], pre, h, hs, n, hn, k0, k1 => by
    obtain ⟨n, rfl⟩ : ∃ m', n = m' + 1 := ⟨n - 1, by omega⟩
    simp only [laws_eqIntS_L0_0, T.int_i, T.rows_l]
    rw [dec_f (by simp)]
  | x :: post, pre, h, hs, n, hn, k0, k1 => by
    obtain ⟨n, rfl⟩ : ∃ m', n = m' + 1 := ⟨n - 1, by omega⟩
    simp only [List.length_cons] at hs hn
    obtain ⟨hx, hp⟩ := h
    have hz := hx
    have ih := eqvIntS_loop m hm post (pre ++ [x]) hp (by simp; omega) n (by omega) k0 k1
    rw [len_snoc, List.append_assoc, List.singleton_append] at ih
    simp only [laws_eqIntS_L0_0, ix_row, ix_nx pre (by omega), T.int_i, T.rows_l, T.str_s, T.bool_b, beq_toList_self, bne_self_eq_false, beq_self_eq_true, Bool.not_true, cond_false]
    rw [dec_t (by simp <;> omega), dec_t (by simp <;> omega), dec_t (by simp <;> omega)]
    exact ih
theorem eqvIntS_ok {m : Nat} (hm : 4000023 ≤ m) (rows : List (List T)) (h : shInt rows) (hl : rows.length ≤ 1048576) (k : T → An) : laws_eqIntS m (.l rows) (.l rows) k = k (.b true) := by
  obtain ⟨m, rfl⟩ : ∃ m', m = m' + 1 := ⟨m - 1, by omega⟩
  simp only [laws_eqIntS, T.rows_l, T.int_i, bne_self_eq_false, cond_false]
  exact eqvIntS_loop m (by omega) rows [] h (by simpa using hl) m (by omega) _ _
theorem shInt_of : ∀ {rows : List (List T)}, (∀ r ∈ rows, WtRow esInt r) → rowsBulk rows ≤ 1048576 → shInt rows ∧ ctInt rows ≤ rowsBulk rows
  | [], _, _ => ⟨trivial, Nat.le_refl _⟩
  | x :: rows, h, hb => by
    have hx := h x (by simp)
    simp only [esInt, WtRow, WtT] at hx
    obtain ⟨_, _, rfl, ⟨a0, rfl, -⟩, rfl⟩ := hx
    simp only [rowsBulk, rowBulk, tbulk] at hb
    have ih := shInt_of (rows := rows) (fun r hr => h r (by simp [hr])) (by omega)
    refine ⟨⟨rfl, ih.1⟩, ?_⟩
    simp only [ctInt, rowsBulk, rowBulk, tbulk, List.getD_cons_zero, List.getD_cons_succ, T.rows_l]
    omega
def shOp : List (List T) → Prop
  | [] => True
  | r :: rs => (r.length = 3) ∧ shOp rs
def ctOp : List (List T) → Nat
  | [] => 0
  | r :: rs => (3) + ctOp rs
def mkOp (m : Nat) : Nat → List (List T) → List (List T)
  | _, [] => []
  | k, r :: rs => [.i ((k : Nat) : Int), .s (mtB m (k + 1)), .s (mtB m ((k + 1) + 1))] :: mkOp m ((((k + 1) + 1) + 1)) rs
theorem mkOp_len (m : Nat) : ∀ rs k, (mkOp m k rs).length = rs.length
  | [], k => rfl
  | r :: rs, k => by simp [mkOp, mkOp_len m rs]
theorem markOpS_loop (m : Nat) (hm : 4000022 ≤ m) : ∀ (post pre : List (List T)) (k : Nat), shOp post → 0 < k → k + ctOp post ≤ 4000000 → pre.length + post.length ≤ 1048576 → ∀ n, post.length < n → ∀ k0,
    laws_markOpS_L0_0 m n (.i k) (.i pre.length) (.l (pre ++ post)) k0 = k0 (.i ((k + ctOp post : Nat) : Int)) (.l (pre ++ mkOp m k post))
  | [], pre, k, h, hk, hb, hs, n, hn, k0 => by
    obtain ⟨n, rfl⟩ : ∃ m', n = m' + 1 := ⟨n - 1, by omega⟩
    simp only [laws_markOpS_L0_0, T.int_i, T.rows_l]
    rw [dec_f (by simp)]
    rfl
  | x :: post, pre, k, h, hk, hb, hs, n, hn, k0 => by
    obtain ⟨n, rfl⟩ : ∃ m', n = m' + 1 := ⟨n - 1, by omega⟩
    simp only [List.length_cons] at hs hn
    obtain ⟨hx, hp⟩ := h
    have hz := hx
    match x, hz with
    | [c0, c1, c2], _ =>
    simp only [ctOp, List.getD_cons_zero, List.getD_cons_succ] at hb
    have ih := markOpS_loop m hm post (pre ++ [[.i ((k : Nat) : Int), .s (mtB m (k + 1)), .s (mtB m ((k + 1) + 1))]]) ((((k + 1) + 1) + 1)) hp (by omega) (by omega) (by simp; omega) n (by omega) k0
    rw [len_snoc, List.append_assoc, List.singleton_append, List.append_assoc, List.singleton_append] at ih
    simp only [laws_markOpS_L0_0, T.int_i, T.rows_l, ix_row, set_row, List.set_cons_zero, List.set_cons_succ, List.tail_cons, List.headD_cons, List.getD_cons_zero, List.getD_cons_succ, ix_nx pre (by omega), wr1 (k := ((k + 1) + 1)) (by omega), wr1 (k := (k + 1)) (by omega), wr1 (k := k) (by omega)]
    rw [dec_t (by simp <;> omega)]
    repeat (first | rw [dec_t (by simp <;> omega)] | rw [markText_ok (by omega) (by omega) (by omega)])
    refine ih.trans ?_
    have e : (((k + 1) + 1) + 1) + ctOp post = k + (ctOp ([c0, c1, c2] :: post)) := by simp only [ctOp, List.getD_cons_zero, List.getD_cons_succ]; omega
    rw [e]
    rfl
theorem markOpS_ok {m : Nat} (hm : 4000023 ≤ m) (rows : List (List T)) (h : shOp rows) (hl : rows.length ≤ 1048576) (k : Nat) (hk : 0 < k) (hs : k + ctOp rows ≤ 4000000) (K : T → T → An) :
    laws_markOpS m (.l rows) (.i k) K = K (.i ((k + ctOp rows : Nat) : Int)) (.l (mkOp (m - 1) k rows)) := by
  obtain ⟨m, rfl⟩ : ∃ m', m = m' + 1 := ⟨m - 1, by omega⟩
  simp only [laws_markOpS, T.rows_l]
  exact (markOpS_loop m (by omega) rows [] k h hk hs (by simpa using hl) m (by omega) _)
theorem heldOpS_loop (m : Nat) (hm : 4000022 ≤ m) (l : List (List T)) : ∀ (post pre : List (List T)) (k : Nat), l = pre ++ mkOp m k post → shOp post → 0 < k → k + ctOp post ≤ 4000000 → pre.length + post.length ≤ 1048576 → ∀ n, post.length < n → ∀ k0 k1,
    laws_heldOpS_L0_0 m n (.l l) (.i k) (.i pre.length) k0 k1 = k1 (.i ((k + ctOp post : Nat) : Int))
  | [], pre, k, he, h, hk, hb, hs, n, hn, k0, k1 => by
    obtain ⟨n, rfl⟩ : ∃ m', n = m' + 1 := ⟨n - 1, by omega⟩
    subst he
    simp only [laws_heldOpS_L0_0, T.int_i, T.rows_l]
    rw [dec_f (by simp [mkOp])]
    rfl
  | x :: post, pre, k, he, h, hk, hb, hs, n, hn, k0, k1 => by
    obtain ⟨n, rfl⟩ : ∃ m', n = m' + 1 := ⟨n - 1, by omega⟩
    simp only [List.length_cons] at hs hn
    obtain ⟨hx, hp⟩ := h
    have hz := hx
    match x, hz with
    | [c0, c1, c2], _ =>
    simp only [ctOp, List.getD_cons_zero, List.getD_cons_succ] at hb
    have ih := heldOpS_loop m hm l post (pre ++ [[.i ((k : Nat) : Int), .s (mtB m (k + 1)), .s (mtB m ((k + 1) + 1))]]) ((((k + 1) + 1) + 1)) (by rw [he]; simp [mkOp]) hp (by omega) (by omega) (by simp; omega) n (by omega) k0 k1
    rw [len_snoc] at ih
    subst he
    have hml := mkOp_len m post ((((k + 1) + 1) + 1))
    simp only [laws_heldOpS_L0_0, T.int_i, T.rows_l, T.str_s, T.bool_b, mkOp, ix_row, List.drop_succ_cons, List.drop_zero, List.getD_cons_zero, List.getD_cons_succ, ix_nx pre (by omega), wr1 (k := ((k + 1) + 1)) (by omega), wr1 (k := (k + 1)) (by omega), wr1 (k := k) (by omega), beq_toList_self, bne_self_eq_false, beq_self_eq_true, Bool.not_true, cond_false]
    rw [dec_t (by simp <;> omega)]
    repeat (first | rw [dec_t (by simp <;> omega)] | rw [markText_ok (by omega) (by omega) (by omega)] | rw [dec_f (by omega)] | simp only [T.int_i, T.rows_l, T.str_s, T.bool_b, mkOp, ix_row, List.drop_succ_cons, List.drop_zero, List.getD_cons_zero, List.getD_cons_succ, ix_nx pre (by omega), wr1 (k := ((k + 1) + 1)) (by omega), wr1 (k := (k + 1)) (by omega), wr1 (k := k) (by omega), beq_toList_self, bne_self_eq_false, beq_self_eq_true, Bool.not_true, cond_false])
    refine ih.trans ?_
    have e : (((k + 1) + 1) + 1) + ctOp post = k + (ctOp ([c0, c1, c2] :: post)) := by simp only [ctOp, List.getD_cons_zero, List.getD_cons_succ]; omega
    rw [e]
theorem heldOpS_ok {m : Nat} (hm : 4000023 ≤ m) (rows : List (List T)) (h : shOp rows) (hl : rows.length ≤ 1048576) (k : Nat) (hk : 0 < k) (hs : k + ctOp rows ≤ 4000000) (K : T → An) :
    laws_heldOpS m (.l (mkOp (m - 1) k rows)) (.i k) K = K (.i ((k + ctOp rows : Nat) : Int)) := by
  obtain ⟨m, rfl⟩ : ∃ m', m = m' + 1 := ⟨m - 1, by omega⟩
  simp only [laws_heldOpS, T.rows_l]
  exact heldOpS_loop m (by omega) _ rows [] k rfl h hk hs (by simpa using hl) m (by omega) _ _
theorem eqrOp_ok {m : Nat} (hm : 4000022 ≤ m) (x : List T)  (k : T → An) : laws_eqOp m (x.getD 0 dflt) (x.getD 1 dflt) (x.getD 2 dflt) (x.getD 0 dflt) (x.getD 1 dflt) (x.getD 2 dflt) k = k (.b true) := by
  obtain ⟨m, rfl⟩ : ∃ m', m = m' + 1 := ⟨m - 1, by omega⟩
  simp only [laws_eqOp, T.int_i, T.rows_l, T.str_s, T.bool_b, beq_toList_self, bne_self_eq_false, beq_self_eq_true, Bool.not_true, cond_false]
theorem eqvOpS_loop (m : Nat) (hm : 4000022 ≤ m) : ∀ (post pre : List (List T)), shOp post → pre.length + post.length ≤ 1048576 → ∀ n, post.length < n → ∀ k0 k1, laws_eqOpS_L0_0 m n (.l (pre ++ post)) (.l (pre ++ post)) (.i pre.length) k0 k1 = k1
  | [], pre, h, hs, n, hn, k0, k1 => by
    obtain ⟨n, rfl⟩ : ∃ m', n = m' + 1 := ⟨n - 1, by omega⟩
    simp only [laws_eqOpS_L0_0, T.int_i, T.rows_l]
    rw [dec_f (by simp)]
  | x :: post, pre, h, hs, n, hn, k0, k1 => by
    obtain ⟨n, rfl⟩ : ∃ m', n = m' + 1 := ⟨n - 1, by omega⟩
    simp only [List.length_cons] at hs hn
    obtain ⟨hx, hp⟩ := h
    have hz := hx
    have ih := eqvOpS_loop m hm post (pre ++ [x]) hp (by simp; omega) n (by omega) k0 k1
    rw [len_snoc, List.append_assoc, List.singleton_append] at ih
    simp only [laws_eqOpS_L0_0, ix_row, ix_nx pre (by omega), T.int_i, T.rows_l, T.str_s, T.bool_b, beq_toList_self, bne_self_eq_false, beq_self_eq_true, Bool.not_true, cond_false]
    rw [dec_t (by simp <;> omega), dec_t (by simp <;> omega), dec_t (by simp <;> omega)]
    rw [eqrOp_ok (m := m) (by omega) x]
    simp only [T.int_i, T.rows_l, T.str_s, T.bool_b, beq_toList_self, bne_self_eq_false, beq_self_eq_true, Bool.not_true, cond_false]
    exact ih
theorem eqvOpS_ok {m : Nat} (hm : 4000023 ≤ m) (rows : List (List T)) (h : shOp rows) (hl : rows.length ≤ 1048576) (k : T → An) : laws_eqOpS m (.l rows) (.l rows) k = k (.b true) := by
  obtain ⟨m, rfl⟩ : ∃ m', m = m' + 1 := ⟨m - 1, by omega⟩
  simp only [laws_eqOpS, T.rows_l, T.int_i, bne_self_eq_false, cond_false]
  exact eqvOpS_loop m (by omega) rows [] h (by simpa using hl) m (by omega) _ _
theorem shOp_of : ∀ {rows : List (List T)}, (∀ r ∈ rows, WtRow esOp r) → rowsBulk rows ≤ 1048576 → shOp rows ∧ ctOp rows ≤ rowsBulk rows
  | [], _, _ => ⟨trivial, Nat.le_refl _⟩
  | x :: rows, h, hb => by
    have hx := h x (by simp)
    simp only [esOp, WtRow, WtT] at hx
    obtain ⟨_, _, rfl, ⟨a0, rfl, -⟩, _, _, rfl, ⟨a1, rfl, -⟩, _, _, rfl, ⟨a2, rfl, -⟩, rfl⟩ := hx
    simp only [rowsBulk, rowBulk, tbulk] at hb
    have ih := shOp_of (rows := rows) (fun r hr => h r (by simp [hr])) (by omega)
    refine ⟨⟨rfl, ih.1⟩, ?_⟩
    simp only [ctOp, rowsBulk, rowBulk, tbulk, List.getD_cons_zero, List.getD_cons_succ, T.rows_l]
    omega
def shJob : List (List T) → Prop
  | [] => True
  | r :: rs => (r.length = 4 ∧ ((r.getD 1 dflt).rows.length ≤ 1048576 ∧ shOp (r.getD 1 dflt).rows) ∧ ((r.getD 3 dflt).rows.length ≤ 1048576 ∧ shInt (r.getD 3 dflt).rows)) ∧ shJob rs
def ctJob : List (List T) → Nat
  | [] => 0
  | r :: rs => (2 + ctOp (r.getD 1 dflt).rows + ctInt (r.getD 3 dflt).rows) + ctJob rs
def mkJob (m : Nat) : Nat → List (List T) → List (List T)
  | _, [] => []
  | k, r :: rs => [.i ((k : Nat) : Int), .l (mkOp (m - 1) (k + 1) ((r.getD 1 dflt).rows)), .i ((((k + 1) + ctOp ((r.getD 1 dflt).rows)) : Nat) : Int), .l (mkInt (m - 1) (((k + 1) + ctOp ((r.getD 1 dflt).rows)) + 1) ((r.getD 3 dflt).rows))] :: mkJob m (((((k + 1) + ctOp ((r.getD 1 dflt).rows)) + 1) + ctInt ((r.getD 3 dflt).rows))) rs
theorem mkJob_len (m : Nat) : ∀ rs k, (mkJob m k rs).length = rs.length
  | [], k => rfl
  | r :: rs, k => by simp [mkJob, mkJob_len m rs]
theorem markJobS_loop (m : Nat) (hm : 4000026 ≤ m) : ∀ (post pre : List (List T)) (k : Nat), shJob post → 0 < k → k + ctJob post ≤ 4000000 → pre.length + post.length ≤ 1048576 → ∀ n, post.length < n → ∀ k0,
    laws_markJobS_L0_0 m n (.i k) (.i pre.length) (.l (pre ++ post)) k0 = k0 (.i ((k + ctJob post : Nat) : Int)) (.l (pre ++ mkJob m k post))
  | [], pre, k, h, hk, hb, hs, n, hn, k0 => by
    obtain ⟨n, rfl⟩ : ∃ m', n = m' + 1 := ⟨n - 1, by omega⟩
    simp only [laws_markJobS_L0_0, T.int_i, T.rows_l]
    rw [dec_f (by simp)]
    rfl
  | x :: post, pre, k, h, hk, hb, hs, n, hn, k0 => by
    obtain ⟨n, rfl⟩ : ∃ m', n = m' + 1 := ⟨n - 1, by omega⟩
    simp only [List.length_cons] at hs hn
    obtain ⟨hx, hp⟩ := h
    obtain ⟨hz, ⟨hl1, hs1⟩, ⟨hl3, hs3⟩⟩ := hx
    match x, hz with
    | [c0, c1, c2, c3], _ =>
    simp only [ctJob, List.getD_cons_zero, List.getD_cons_succ] at hb
    simp only [List.getD_cons_zero, List.getD_cons_succ] at hl1 hs1 hl3 hs3
    have ih := markJobS_loop m hm post (pre ++ [[.i ((k : Nat) : Int), .l (mkOp (m - 1) (k + 1) (c1.rows)), .i ((((k + 1) + ctOp (c1.rows)) : Nat) : Int), .l (mkInt (m - 1) (((k + 1) + ctOp (c1.rows)) + 1) (c3.rows))]]) (((((k + 1) + ctOp (c1.rows)) + 1) + ctInt (c3.rows))) hp (by omega) (by omega) (by simp; omega) n (by omega) k0
    rw [len_snoc, List.append_assoc, List.singleton_append, List.append_assoc, List.singleton_append] at ih
    simp only [laws_markJobS_L0_0, T.int_i, T.rows_l, ix_row, set_row, List.set_cons_zero, List.set_cons_succ, List.tail_cons, List.headD_cons, List.getD_cons_zero, List.getD_cons_succ, ix_nx pre (by omega), wr1 (k := ((k + 1) + ctOp (c1.rows))) (by omega), wr1 (k := k) (by omega)]
    rw [dec_t (by simp <;> omega)]
    repeat (first | rw [dec_t (by simp <;> omega)] | rw [markText_ok (by omega) (by omega) (by omega)] | (rw [markOpS_ok (m := m) (by omega) c1.rows hs1 hl1 ((k + 1)) (by omega) (by omega)]; simp only [T.rows_l, T.int_i, ix_row, set_row, List.set_cons_zero, List.set_cons_succ, List.tail_cons, List.headD_cons, List.getD_cons_zero, List.getD_cons_succ, wr1 (k := ((k + 1) + ctOp (c1.rows))) (by omega), wr1 (k := k) (by omega)]) | (rw [markIntS_ok (m := m) (by omega) c3.rows hs3 hl3 ((((k + 1) + ctOp (c1.rows)) + 1)) (by omega) (by omega)]; simp only [T.rows_l, T.int_i, ix_row, set_row, List.set_cons_zero, List.set_cons_succ, List.tail_cons, List.headD_cons, List.getD_cons_zero, List.getD_cons_succ, wr1 (k := ((k + 1) + ctOp (c1.rows))) (by omega), wr1 (k := k) (by omega)]))
    refine ih.trans ?_
    have e : ((((k + 1) + ctOp (c1.rows)) + 1) + ctInt (c3.rows)) + ctJob post = k + (ctJob ([c0, c1, c2, c3] :: post)) := by simp only [ctJob, List.getD_cons_zero, List.getD_cons_succ]; omega
    rw [e]
    rfl
theorem markJobS_ok {m : Nat} (hm : 4000027 ≤ m) (rows : List (List T)) (h : shJob rows) (hl : rows.length ≤ 1048576) (k : Nat) (hk : 0 < k) (hs : k + ctJob rows ≤ 4000000) (K : T → T → An) :
    laws_markJobS m (.l rows) (.i k) K = K (.i ((k + ctJob rows : Nat) : Int)) (.l (mkJob (m - 1) k rows)) := by
  obtain ⟨m, rfl⟩ : ∃ m', m = m' + 1 := ⟨m - 1, by omega⟩
  simp only [laws_markJobS, T.rows_l]
  exact (markJobS_loop m (by omega) rows [] k h hk hs (by simpa using hl) m (by omega) _)
theorem heldJobS_loop (m : Nat) (hm : 4000026 ≤ m) (l : List (List T)) : ∀ (post pre : List (List T)) (k : Nat), l = pre ++ mkJob m k post → shJob post → 0 < k → k + ctJob post ≤ 4000000 → pre.length + post.length ≤ 1048576 → ∀ n, post.length < n → ∀ k0 k1,
    laws_heldJobS_L0_0 m n (.l l) (.i k) (.i pre.length) k0 k1 = k1 (.i ((k + ctJob post : Nat) : Int))
  | [], pre, k, he, h, hk, hb, hs, n, hn, k0, k1 => by
    obtain ⟨n, rfl⟩ : ∃ m', n = m' + 1 := ⟨n - 1, by omega⟩
    subst he
    simp only [laws_heldJobS_L0_0, T.int_i, T.rows_l]
    rw [dec_f (by simp [mkJob])]
    rfl
  | x :: post, pre, k, he, h, hk, hb, hs, n, hn, k0, k1 => by
    obtain ⟨n, rfl⟩ : ∃ m', n = m' + 1 := ⟨n - 1, by omega⟩
    simp only [List.length_cons] at hs hn
    obtain ⟨hx, hp⟩ := h
    obtain ⟨hz, ⟨hl1, hs1⟩, ⟨hl3, hs3⟩⟩ := hx
    match x, hz with
    | [c0, c1, c2, c3], _ =>
    simp only [ctJob, List.getD_cons_zero, List.getD_cons_succ] at hb
    simp only [List.getD_cons_zero, List.getD_cons_succ] at hl1 hs1 hl3 hs3
    have ih := heldJobS_loop m hm l post (pre ++ [[.i ((k : Nat) : Int), .l (mkOp (m - 1) (k + 1) (c1.rows)), .i ((((k + 1) + ctOp (c1.rows)) : Nat) : Int), .l (mkInt (m - 1) (((k + 1) + ctOp (c1.rows)) + 1) (c3.rows))]]) (((((k + 1) + ctOp (c1.rows)) + 1) + ctInt (c3.rows))) (by rw [he]; simp [mkJob]) hp (by omega) (by omega) (by simp; omega) n (by omega) k0 k1
    rw [len_snoc] at ih
    subst he
    have hml := mkJob_len m post (((((k + 1) + ctOp (c1.rows)) + 1) + ctInt (c3.rows)))
    simp only [laws_heldJobS_L0_0, T.int_i, T.rows_l, T.str_s, T.bool_b, mkJob, ix_row, List.drop_succ_cons, List.drop_zero, List.getD_cons_zero, List.getD_cons_succ, ix_nx pre (by omega), wr1 (k := ((k + 1) + ctOp (c1.rows))) (by omega), wr1 (k := k) (by omega), beq_toList_self, bne_self_eq_false, beq_self_eq_true, Bool.not_true, cond_false]
    rw [dec_t (by simp <;> omega)]
    repeat (first | (rw [heldIntS_ok (m := m) (by omega) c3.rows hs3 hl3 ((((k + 1) + ctOp (c1.rows)) + 1)) (by omega) (by omega)]; simp only [T.int_i, T.rows_l, T.str_s, T.bool_b, mkJob, ix_row, List.drop_succ_cons, List.drop_zero, List.getD_cons_zero, List.getD_cons_succ, ix_nx pre (by omega), wr1 (k := ((k + 1) + ctOp (c1.rows))) (by omega), wr1 (k := k) (by omega), beq_toList_self, bne_self_eq_false, beq_self_eq_true, Bool.not_true, cond_false]; rw [dec_f (by omega)]) | (rw [heldOpS_ok (m := m) (by omega) c1.rows hs1 hl1 ((k + 1)) (by omega) (by omega)]; simp only [T.int_i, T.rows_l, T.str_s, T.bool_b, mkJob, ix_row, List.drop_succ_cons, List.drop_zero, List.getD_cons_zero, List.getD_cons_succ, ix_nx pre (by omega), wr1 (k := ((k + 1) + ctOp (c1.rows))) (by omega), wr1 (k := k) (by omega), beq_toList_self, bne_self_eq_false, beq_self_eq_true, Bool.not_true, cond_false]; rw [dec_f (by omega)]) | rw [dec_t (by simp <;> omega)] | rw [markText_ok (by omega) (by omega) (by omega)] | rw [dec_f (by omega)] | simp only [T.int_i, T.rows_l, T.str_s, T.bool_b, mkJob, ix_row, List.drop_succ_cons, List.drop_zero, List.getD_cons_zero, List.getD_cons_succ, ix_nx pre (by omega), wr1 (k := ((k + 1) + ctOp (c1.rows))) (by omega), wr1 (k := k) (by omega), beq_toList_self, bne_self_eq_false, beq_self_eq_true, Bool.not_true, cond_false])
    refine ih.trans ?_
    have e : ((((k + 1) + ctOp (c1.rows)) + 1) + ctInt (c3.rows)) + ctJob post = k + (ctJob ([c0, c1, c2, c3] :: post)) := by simp only [ctJob, List.getD_cons_zero, List.getD_cons_succ]; omega
    rw [e]
theorem heldJobS_ok {m : Nat} (hm : 4000027 ≤ m) (rows : List (List T)) (h : shJob rows) (hl : rows.length ≤ 1048576) (k : Nat) (hk : 0 < k) (hs : k + ctJob rows ≤ 4000000) (K : T → An) :
    laws_heldJobS m (.l (mkJob (m - 1) k rows)) (.i k) K = K (.i ((k + ctJob rows : Nat) : Int)) := by
  obtain ⟨m, rfl⟩ : ∃ m', m = m' + 1 := ⟨m - 1, by omega⟩
  simp only [laws_heldJobS, T.rows_l]
  exact heldJobS_loop m (by omega) _ rows [] k rfl h hk hs (by simpa using hl) m (by omega) _ _
theorem eqrJob_ok {m : Nat} (hm : 4000026 ≤ m) (x : List T) (h1 : shOp (x.getD 1 dflt).rows) (l1 : (x.getD 1 dflt).rows.length ≤ 1048576) (h3 : shInt (x.getD 3 dflt).rows) (l3 : (x.getD 3 dflt).rows.length ≤ 1048576) (k : T → An) : laws_eqJob m (x.getD 0 dflt) (.l (x.getD 1 dflt).rows) (x.getD 2 dflt) (.l (x.getD 3 dflt).rows) (x.getD 0 dflt) (.l (x.getD 1 dflt).rows) (x.getD 2 dflt) (.l (x.getD 3 dflt).rows) k = k (.b true) := by
  obtain ⟨m, rfl⟩ : ∃ m', m = m' + 1 := ⟨m - 1, by omega⟩
  simp only [laws_eqJob, T.int_i, T.rows_l, T.str_s, T.bool_b, beq_toList_self, bne_self_eq_false, beq_self_eq_true, Bool.not_true, cond_false]
  rw [eqvOpS_ok (by omega) _ h1 l1]
  try simp only [T.int_i, T.rows_l, T.str_s, T.bool_b, beq_toList_self, bne_self_eq_false, beq_self_eq_true, Bool.not_true, cond_false]
  rw [eqvIntS_ok (by omega) _ h3 l3]
  try simp only [T.int_i, T.rows_l, T.str_s, T.bool_b, beq_toList_self, bne_self_eq_false, beq_self_eq_true, Bool.not_true, cond_false]
theorem eqvJobS_loop (m : Nat) (hm : 4000026 ≤ m) : ∀ (post pre : List (List T)), shJob post → pre.length + post.length ≤ 1048576 → ∀ n, post.length < n → ∀ k0 k1, laws_eqJobS_L0_0 m n (.l (pre ++ post)) (.l (pre ++ post)) (.i pre.length) k0 k1 = k1
  | [], pre, h, hs, n, hn, k0, k1 => by
    obtain ⟨n, rfl⟩ : ∃ m', n = m' + 1 := ⟨n - 1, by omega⟩
    simp only [laws_eqJobS_L0_0, T.int_i, T.rows_l]
    rw [dec_f (by simp)]
  | x :: post, pre, h, hs, n, hn, k0, k1 => by
    obtain ⟨n, rfl⟩ : ∃ m', n = m' + 1 := ⟨n - 1, by omega⟩
    simp only [List.length_cons] at hs hn
    obtain ⟨hx, hp⟩ := h
    obtain ⟨hz, ⟨hl1, hs1⟩, ⟨hl3, hs3⟩⟩ := hx
    have ih := eqvJobS_loop m hm post (pre ++ [x]) hp (by simp; omega) n (by omega) k0 k1
    rw [len_snoc, List.append_assoc, List.singleton_append] at ih
    simp only [laws_eqJobS_L0_0, ix_row, ix_nx pre (by omega), T.int_i, T.rows_l, T.str_s, T.bool_b, beq_toList_self, bne_self_eq_false, beq_self_eq_true, Bool.not_true, cond_false]
    rw [dec_t (by simp <;> omega), dec_t (by simp <;> omega), dec_t (by simp <;> omega)]
    rw [eqrJob_ok (m := m) (by omega) x hs1 hl1 hs3 hl3]
    simp only [T.int_i, T.rows_l, T.str_s, T.bool_b, beq_toList_self, bne_self_eq_false, beq_self_eq_true, Bool.not_true, cond_false]
    exact ih
theorem eqvJobS_ok {m : Nat} (hm : 4000027 ≤ m) (rows : List (List T)) (h : shJob rows) (hl : rows.length ≤ 1048576) (k : T → An) : laws_eqJobS m (.l rows) (.l rows) k = k (.b true) := by
  obtain ⟨m, rfl⟩ : ∃ m', m = m' + 1 := ⟨m - 1, by omega⟩
  simp only [laws_eqJobS, T.rows_l, T.int_i, bne_self_eq_false, cond_false]
  exact eqvJobS_loop m (by omega) rows [] h (by simpa using hl) m (by omega) _ _
theorem shJob_of : ∀ {rows : List (List T)}, (∀ r ∈ rows, WtRow esJob r) → rowsBulk rows ≤ 1048576 → shJob rows ∧ ctJob rows ≤ rowsBulk rows
  | [], _, _ => ⟨trivial, Nat.le_refl _⟩
  | x :: rows, h, hb => by
    have hx := h x (by simp)
    simp only [esJob, WtRow, WtT] at hx
    obtain ⟨_, _, rfl, ⟨a0, rfl, -⟩, _, _, rfl, ⟨a1, rfl, h1⟩, _, _, rfl, ⟨a2, rfl, -⟩, _, _, rfl, ⟨a3, rfl, h3⟩, rfl⟩ := hx
    simp only [rowsBulk, rowBulk, tbulk] at hb
    have ih := shJob_of (rows := rows) (fun r hr => h r (by simp [hr])) (by omega)
    have z1 := shOp_of (rows := a1) h1 (by omega)
    have y1 := wtRows_len (es := esOp) (by simp) h1
    have z3 := shInt_of (rows := a3) h3 (by omega)
    have y3 := wtRows_len (es := esInt) (by simp) h3
    refine ⟨⟨⟨rfl, ⟨by simp only [List.getD_cons_zero, List.getD_cons_succ, T.rows_l]; omega, z1.1⟩, ⟨by simp only [List.getD_cons_zero, List.getD_cons_succ, T.rows_l]; omega, z3.1⟩⟩, ih.1⟩, ?_⟩
    simp only [ctJob, rowsBulk, rowBulk, tbulk, List.getD_cons_zero, List.getD_cons_succ, T.rows_l]
    omega
def shChoice : List (List T) → Prop
  | [] => True
  | r :: rs => (r.length = 2) ∧ shChoice rs
def ctChoice : List (List T) → Nat
  | [] => 0
  | r :: rs => (2) + ctChoice rs
def mkChoice (m : Nat) : Nat → List (List T) → List (List T)
  | _, [] => []
  | k, r :: rs => [.i ((k : Nat) : Int), .b ((Int.tmod (((k + 1) : Nat) : Int) 3) == 0)] :: mkChoice m (((k + 1) + 1)) rs
theorem mkChoice_len (m : Nat) : ∀ rs k, (mkChoice m k rs).length = rs.length
  | [], k => rfl
  | r :: rs, k => by simp [mkChoice, mkChoice_len m rs]
theorem markChoiceS_loop (m : Nat) (hm : 4000022 ≤ m) : ∀ (post pre : List (List T)) (k : Nat), shChoice post → 0 < k → k + ctChoice post ≤ 4000000 → pre.length + post.length ≤ 1048576 → ∀ n, post.length < n → ∀ k0,
    laws_markChoiceS_L0_0 m n (.i k) (.i pre.length) (.l (pre ++ post)) k0 = k0 (.i ((k + ctChoice post : Nat) : Int)) (.l (pre ++ mkChoice m k post))
  | [], pre, k, h, hk, hb, hs, n, hn, k0 => by
    obtain ⟨n, rfl⟩ : ∃ m', n = m' + 1 := ⟨n - 1, by omega⟩
    simp only [laws_markChoiceS_L0_0, T.int_i, T.rows_l]
    rw [dec_f (by simp)]
    rfl
  | x :: post, pre, k, h, hk, hb, hs, n, hn, k0 => by
    obtain ⟨n, rfl⟩ : ∃ m', n = m' + 1 := ⟨n - 1, by omega⟩
    simp only [List.length_cons] at hs hn
    obtain ⟨hx, hp⟩ := h
    have hz := hx
    match x, hz with
    | [c0, c1], _ =>
    simp only [ctChoice, List.getD_cons_zero, List.getD_cons_succ] at hb
    have ih := markChoiceS_loop m hm post (pre ++ [[.i ((k : Nat) : Int), .b ((Int.tmod (((k + 1) : Nat) : Int) 3) == 0)]]) (((k + 1) + 1)) hp (by omega) (by omega) (by simp; omega) n (by omega) k0
    rw [len_snoc, List.append_assoc, List.singleton_append, List.append_assoc, List.singleton_append] at ih
    simp only [laws_markChoiceS_L0_0, T.int_i, T.rows_l, ix_row, set_row, List.set_cons_zero, List.set_cons_succ, List.tail_cons, List.headD_cons, List.getD_cons_zero, List.getD_cons_succ, ix_nx pre (by omega), wr1 (k := (k + 1)) (by omega), wr1 (k := k) (by omega)]
    rw [dec_t (by simp <;> omega)]
    repeat (first | rw [dec_t (by simp <;> omega)] | rw [markText_ok (by omega) (by omega) (by omega)])
    refine ih.trans ?_
    have e : ((k + 1) + 1) + ctChoice post = k + (ctChoice ([c0, c1] :: post)) := by simp only [ctChoice, List.getD_cons_zero, List.getD_cons_succ]; omega
    rw [e]
    rfl
theorem markChoiceS_ok {m : Nat} (hm : 4000023 ≤ m) (rows : List (List T)) (h : shChoice rows) (hl : rows.length ≤ 1048576) (k : Nat) (hk : 0 < k) (hs : k + ctChoice rows ≤ 4000000) (K : T → T → An) :
    laws_markChoiceS m (.l rows) (.i k) K = K (.i ((k + ctChoice rows : Nat) : Int)) (.l (mkChoice (m - 1) k rows)) := by
  obtain ⟨m, rfl⟩ : ∃ m', m = m' + 1 := ⟨m - 1, by omega⟩
  simp only [laws_markChoiceS, T.rows_l]
  exact (markChoiceS_loop m (by omega) rows [] k h hk hs (by simpa using hl) m (by omega) _)
theorem heldChoiceS_loop (m : Nat) (hm : 4000022 ≤ m) (l : List (List T)) : ∀ (post pre : List (List T)) (k : Nat), l = pre ++ mkChoice m k post → shChoice post → 0 < k → k + ctChoice post ≤ 4000000 → pre.length + post.length ≤ 1048576 → ∀ n, post.length < n → ∀ k0 k1,
    laws_heldChoiceS_L0_0 m n (.l l) (.i k) (.i pre.length) k0 k1 = k1 (.i ((k + ctChoice post : Nat) : Int))
  | [], pre, k, he, h, hk, hb, hs, n, hn, k0, k1 => by
    obtain ⟨n, rfl⟩ : ∃ m', n = m' + 1 := ⟨n - 1, by omega⟩
    subst he
    simp only [laws_heldChoiceS_L0_0, T.int_i, T.rows_l]
    rw [dec_f (by simp [mkChoice])]
    rfl
  | x :: post, pre, k, he, h, hk, hb, hs, n, hn, k0, k1 => by
    obtain ⟨n, rfl⟩ : ∃ m', n = m' + 1 := ⟨n - 1, by omega⟩
    simp only [List.length_cons] at hs hn
    obtain ⟨hx, hp⟩ := h
    have hz := hx
    match x, hz with
    | [c0, c1], _ =>
    simp only [ctChoice, List.getD_cons_zero, List.getD_cons_succ] at hb
    have ih := heldChoiceS_loop m hm l post (pre ++ [[.i ((k : Nat) : Int), .b ((Int.tmod (((k + 1) : Nat) : Int) 3) == 0)]]) (((k + 1) + 1)) (by rw [he]; simp [mkChoice]) hp (by omega) (by omega) (by simp; omega) n (by omega) k0 k1
    rw [len_snoc] at ih
    subst he
    have hml := mkChoice_len m post (((k + 1) + 1))
    simp only [laws_heldChoiceS_L0_0, T.int_i, T.rows_l, T.str_s, T.bool_b, mkChoice, ix_row, List.drop_succ_cons, List.drop_zero, List.getD_cons_zero, List.getD_cons_succ, ix_nx pre (by omega), wr1 (k := (k + 1)) (by omega), wr1 (k := k) (by omega), beq_toList_self, bne_self_eq_false, beq_self_eq_true, Bool.not_true, cond_false]
    rw [dec_t (by simp <;> omega)]
    repeat (first | rw [dec_t (by simp <;> omega)] | rw [markText_ok (by omega) (by omega) (by omega)] | rw [dec_f (by omega)] | simp only [T.int_i, T.rows_l, T.str_s, T.bool_b, mkChoice, ix_row, List.drop_succ_cons, List.drop_zero, List.getD_cons_zero, List.getD_cons_succ, ix_nx pre (by omega), wr1 (k := (k + 1)) (by omega), wr1 (k := k) (by omega), beq_toList_self, bne_self_eq_false, beq_self_eq_true, Bool.not_true, cond_false])
    refine ih.trans ?_
    have e : ((k + 1) + 1) + ctChoice post = k + (ctChoice ([c0, c1] :: post)) := by simp only [ctChoice, List.getD_cons_zero, List.getD_cons_succ]; omega
    rw [e]
theorem heldChoiceS_ok {m : Nat} (hm : 4000023 ≤ m) (rows : List (List T)) (h : shChoice rows) (hl : rows.length ≤ 1048576) (k : Nat) (hk : 0 < k) (hs : k + ctChoice rows ≤ 4000000) (K : T → An) :
    laws_heldChoiceS m (.l (mkChoice (m - 1) k rows)) (.i k) K = K (.i ((k + ctChoice rows : Nat) : Int)) := by
  obtain ⟨m, rfl⟩ : ∃ m', m = m' + 1 := ⟨m - 1, by omega⟩
  simp only [laws_heldChoiceS, T.rows_l]
  exact heldChoiceS_loop m (by omega) _ rows [] k rfl h hk hs (by simpa using hl) m (by omega) _ _
theorem eqrChoice_ok {m : Nat} (hm : 4000022 ≤ m) (x : List T)  (k : T → An) : laws_eqChoice m (x.getD 0 dflt) (x.getD 1 dflt) (x.getD 0 dflt) (x.getD 1 dflt) k = k (.b true) := by
  obtain ⟨m, rfl⟩ : ∃ m', m = m' + 1 := ⟨m - 1, by omega⟩
  simp only [laws_eqChoice, T.int_i, T.rows_l, T.str_s, T.bool_b, beq_toList_self, bne_self_eq_false, beq_self_eq_true, Bool.not_true, cond_false]
theorem eqvChoiceS_loop (m : Nat) (hm : 4000022 ≤ m) : ∀ (post pre : List (List T)), shChoice post → pre.length + post.length ≤ 1048576 → ∀ n, post.length < n → ∀ k0 k1, laws_eqChoiceS_L0_0 m n (.l (pre ++ post)) (.l (pre ++ post)) (.i pre.length) k0 k1 = k1
  | [], pre, h, hs, n, hn, k0, k1 => by
    obtain ⟨n, rfl⟩ : ∃ m', n = m' + 1 := ⟨n - 1, by omega⟩
    simp only [laws_eqChoiceS_L0_0, T.int_i, T.rows_l]
    rw [dec_f (by simp)]
  | x :: post, pre, h, hs, n, hn, k0, k1 => by
    obtain ⟨n, rfl⟩ : ∃ m', n = m' + 1 := ⟨n - 1, by omega⟩
    simp only [List.length_cons] at hs hn
    obtain ⟨hx, hp⟩ := h
    have hz := hx
    have ih := eqvChoiceS_loop m hm post (pre ++ [x]) hp (by simp; omega) n (by omega) k0 k1
    rw [len_snoc, List.append_assoc, List.singleton_append] at ih
    simp only [laws_eqChoiceS_L0_0, ix_row, ix_nx pre (by omega), T.int_i, T.rows_l, T.str_s, T.bool_b, beq_toList_self, bne_self_eq_false, beq_self_eq_true, Bool.not_true, cond_false]
    rw [dec_t (by simp <;> omega), dec_t (by simp <;> omega), dec_t (by simp <;> omega)]
    rw [eqrChoice_ok (m := m) (by omega) x]
    simp only [T.int_i, T.rows_l, T.str_s, T.bool_b, beq_toList_self, bne_self_eq_false, beq_self_eq_true, Bool.not_true, cond_false]
    exact ih
theorem eqvChoiceS_ok {m : Nat} (hm : 4000023 ≤ m) (rows : List (List T)) (h : shChoice rows) (hl : rows.length ≤ 1048576) (k : T → An) : laws_eqChoiceS m (.l rows) (.l rows) k = k (.b true) := by
  obtain ⟨m, rfl⟩ : ∃ m', m = m' + 1 := ⟨m - 1, by omega⟩
  simp only [laws_eqChoiceS, T.rows_l, T.int_i, bne_self_eq_false, cond_false]
  exact eqvChoiceS_loop m (by omega) rows [] h (by simpa using hl) m (by omega) _ _
theorem shChoice_of : ∀ {rows : List (List T)}, (∀ r ∈ rows, WtRow esChoice r) → rowsBulk rows ≤ 1048576 → shChoice rows ∧ ctChoice rows ≤ rowsBulk rows
  | [], _, _ => ⟨trivial, Nat.le_refl _⟩
  | x :: rows, h, hb => by
    have hx := h x (by simp)
    simp only [esChoice, WtRow, WtT] at hx
    obtain ⟨_, _, rfl, ⟨a0, rfl, -⟩, _, _, rfl, ⟨a1, rfl⟩, rfl⟩ := hx
    simp only [rowsBulk, rowBulk, tbulk] at hb
    have ih := shChoice_of (rows := rows) (fun r hr => h r (by simp [hr])) (by omega)
    refine ⟨⟨rfl, ih.1⟩, ?_⟩
    simp only [ctChoice, rowsBulk, rowBulk, tbulk, List.getD_cons_zero, List.getD_cons_succ, T.rows_l]
    omega
theorem eqvCoord_ok {m : Nat} (hm : 4000030 ≤ m) (a0 : Int) (a1 : Int) (a2 : Int) (a3 : List (List T)) (a4 : List (List T)) (a5 : Int) (h3 : shJob a3) (l3 : a3.length ≤ 1048576) (h4 : shChoice a4) (l4 : a4.length ≤ 1048576) (k : T → An) : laws_eqCoord m (.i a0) (.i a1) (.i a2) (.l a3) (.l a4) (.i a5) (.i a0) (.i a1) (.i a2) (.l a3) (.l a4) (.i a5) k = k (.b true) := by
  obtain ⟨m, rfl⟩ : ∃ m', m = m' + 1 := ⟨m - 1, by omega⟩
  simp only [laws_eqCoord, T.int_i, T.rows_l, T.str_s, T.bool_b, beq_toList_self, bne_self_eq_false, beq_self_eq_true, Bool.not_true, cond_false]
  rw [eqvJobS_ok (by omega) a3 h3 l3]
  try simp only [T.int_i, T.rows_l, T.str_s, T.bool_b, beq_toList_self, bne_self_eq_false, beq_self_eq_true, Bool.not_true, cond_false]
  rw [eqvChoiceS_ok (by omega) a4 h4 l4]
  try simp only [T.int_i, T.rows_l, T.str_s, T.bool_b, beq_toList_self, bne_self_eq_false, beq_self_eq_true, Bool.not_true, cond_false]
theorem markvCoord_ok {m : Nat} (hm : 4000030 ≤ m) (a0 : T) (a1 : T) (a2 : T) (a3 : List (List T)) (a4 : List (List T)) (a5 : T) (h3 : shJob a3) (l3 : a3.length ≤ 1048576) (h4 : shChoice a4) (l4 : a4.length ≤ 1048576) (hs : ((1 + ctJob a3) + ctChoice a4) ≤ 4000000) (K : T → T → T → An) :
    laws_markCoord m a0 a1 a2 (.l a3) (.l a4) a5 (.i 1) K = K (.i ((((1 + ctJob a3) + ctChoice a4) : Nat) : Int)) (.l (mkJob (m - 2) 1 a3)) (.l (mkChoice (m - 2) (1 + ctJob a3) a4)) := by
  obtain ⟨m, rfl⟩ : ∃ m', m = m' + 1 := ⟨m - 1, by omega⟩
  simp only [laws_markCoord, T.rows_l]
  refine (markJobS_ok (m := m) (by omega) a3 h3 l3 (1) (by omega) (by omega) _).trans ?_
  try simp only [T.rows_l, T.int_i]
  refine (markChoiceS_ok (m := m) (by omega) a4 h4 l4 ((1 + ctJob a3)) (by omega) (by omega) _).trans ?_
  try simp only [T.rows_l, T.int_i]
  try rfl
theorem heldvCoord_ok {m : Nat} (hm : 4000030 ≤ m) (a0 : T) (a1 : T) (a2 : T) (a3 : List (List T)) (a4 : List (List T)) (a5 : T) (h3 : shJob a3) (l3 : a3.length ≤ 1048576) (h4 : shChoice a4) (l4 : a4.length ≤ 1048576) (hs : ((1 + ctJob a3) + ctChoice a4) ≤ 4000000) (K : T → An) :
    laws_heldCoord m a0 a1 a2 (.l (mkJob (m - 2) 1 a3)) (.l (mkChoice (m - 2) (1 + ctJob a3) a4)) a5 (.i 1) K = K (.i ((((1 + ctJob a3) + ctChoice a4) : Nat) : Int)) := by
  obtain ⟨m, rfl⟩ : ∃ m', m = m' + 1 := ⟨m - 1, by omega⟩
  simp only [laws_heldCoord, T.rows_l, show m + 1 - 2 = m - 1 from by omega]
  refine (heldJobS_ok (m := m) (by omega) a3 h3 l3 (1) (by omega) (by omega) _).trans ?_
  simp only [T.rows_l, T.int_i]
  rw [dec_f (by omega)]
  refine (heldChoiceS_ok (m := m) (by omega) a4 h4 l4 ((1 + ctJob a3)) (by omega) (by omega) _).trans ?_
  simp only [T.rows_l, T.int_i]
  rw [dec_f (by omega)]
def shWord : List (List T) → Prop
  | [] => True
  | r :: rs => (r.length = 5 ∧ ((r.getD 3 dflt).rows.length ≤ 1048576 ∧ shOp (r.getD 3 dflt).rows)) ∧ shWord rs
def ctWord : List (List T) → Nat
  | [] => 0
  | r :: rs => (4 + ctOp (r.getD 3 dflt).rows) + ctWord rs
def mkWord (m : Nat) : Nat → List (List T) → List (List T)
  | _, [] => []
  | k, r :: rs => [.i ((k : Nat) : Int), .i (((k + 1) : Nat) : Int), .i ((((k + 1) + 1) : Nat) : Int), .l (mkOp (m - 1) (((k + 1) + 1) + 1) ((r.getD 3 dflt).rows)), .b ((Int.tmod ((((((k + 1) + 1) + 1) + ctOp ((r.getD 3 dflt).rows)) : Nat) : Int) 3) == 0)] :: mkWord m ((((((k + 1) + 1) + 1) + ctOp ((r.getD 3 dflt).rows)) + 1)) rs
theorem mkWord_len (m : Nat) : ∀ rs k, (mkWord m k rs).length = rs.length
  | [], k => rfl
  | r :: rs, k => by simp [mkWord, mkWord_len m rs]
theorem markWordS_loop (m : Nat) (hm : 4000026 ≤ m) : ∀ (post pre : List (List T)) (k : Nat), shWord post → 0 < k → k + ctWord post ≤ 4000000 → pre.length + post.length ≤ 1048576 → ∀ n, post.length < n → ∀ k0,
    laws_markWordS_L0_0 m n (.i k) (.i pre.length) (.l (pre ++ post)) k0 = k0 (.i ((k + ctWord post : Nat) : Int)) (.l (pre ++ mkWord m k post))
  | [], pre, k, h, hk, hb, hs, n, hn, k0 => by
    obtain ⟨n, rfl⟩ : ∃ m', n = m' + 1 := ⟨n - 1, by omega⟩
    simp only [laws_markWordS_L0_0, T.int_i, T.rows_l]
    rw [dec_f (by simp)]
    rfl
  | x :: post, pre, k, h, hk, hb, hs, n, hn, k0 => by
    obtain ⟨n, rfl⟩ : ∃ m', n = m' + 1 := ⟨n - 1, by omega⟩
    simp only [List.length_cons] at hs hn
    obtain ⟨hx, hp⟩ := h
    obtain ⟨hz, ⟨hl3, hs3⟩⟩ := hx
    match x, hz with
    | [c0, c1, c2, c3, c4], _ =>
    simp only [ctWord, List.getD_cons_zero, List.getD_cons_succ] at hb
    simp only [List.getD_cons_zero, List.getD_cons_succ] at hl3 hs3
    have ih := markWordS_loop m hm post (pre ++ [[.i ((k : Nat) : Int), .i (((k + 1) : Nat) : Int), .i ((((k + 1) + 1) : Nat) : Int), .l (mkOp (m - 1) (((k + 1) + 1) + 1) (c3.rows)), .b ((Int.tmod ((((((k + 1) + 1) + 1) + ctOp (c3.rows)) : Nat) : Int) 3) == 0)]]) ((((((k + 1) + 1) + 1) + ctOp (c3.rows)) + 1)) hp (by omega) (by omega) (by simp; omega) n (by omega) k0
    rw [len_snoc, List.append_assoc, List.singleton_append, List.append_assoc, List.singleton_append] at ih
    simp only [laws_markWordS_L0_0, T.int_i, T.rows_l, ix_row, set_row, List.set_cons_zero, List.set_cons_succ, List.tail_cons, List.headD_cons, List.getD_cons_zero, List.getD_cons_succ, ix_nx pre (by omega), wr1 (k := ((((k + 1) + 1) + 1) + ctOp (c3.rows))) (by omega), wr1 (k := ((k + 1) + 1)) (by omega), wr1 (k := (k + 1)) (by omega), wr1 (k := k) (by omega)]
    rw [dec_t (by simp <;> omega)]
    repeat (first | rw [dec_t (by simp <;> omega)] | rw [markText_ok (by omega) (by omega) (by omega)] | (rw [markOpS_ok (m := m) (by omega) c3.rows hs3 hl3 ((((k + 1) + 1) + 1)) (by omega) (by omega)]; simp only [T.rows_l, T.int_i, ix_row, set_row, List.set_cons_zero, List.set_cons_succ, List.tail_cons, List.headD_cons, List.getD_cons_zero, List.getD_cons_succ, wr1 (k := ((((k + 1) + 1) + 1) + ctOp (c3.rows))) (by omega), wr1 (k := ((k + 1) + 1)) (by omega), wr1 (k := (k + 1)) (by omega), wr1 (k := k) (by omega)]))
    refine ih.trans ?_
    have e : (((((k + 1) + 1) + 1) + ctOp (c3.rows)) + 1) + ctWord post = k + (ctWord ([c0, c1, c2, c3, c4] :: post)) := by simp only [ctWord, List.getD_cons_zero, List.getD_cons_succ]; omega
    rw [e]
    rfl
theorem markWordS_ok {m : Nat} (hm : 4000027 ≤ m) (rows : List (List T)) (h : shWord rows) (hl : rows.length ≤ 1048576) (k : Nat) (hk : 0 < k) (hs : k + ctWord rows ≤ 4000000) (K : T → T → An) :
    laws_markWordS m (.l rows) (.i k) K = K (.i ((k + ctWord rows : Nat) : Int)) (.l (mkWord (m - 1) k rows)) := by
  obtain ⟨m, rfl⟩ : ∃ m', m = m' + 1 := ⟨m - 1, by omega⟩
  simp only [laws_markWordS, T.rows_l]
  exact (markWordS_loop m (by omega) rows [] k h hk hs (by simpa using hl) m (by omega) _)
theorem heldWordS_loop (m : Nat) (hm : 4000026 ≤ m) (l : List (List T)) : ∀ (post pre : List (List T)) (k : Nat), l = pre ++ mkWord m k post → shWord post → 0 < k → k + ctWord post ≤ 4000000 → pre.length + post.length ≤ 1048576 → ∀ n, post.length < n → ∀ k0 k1,
    laws_heldWordS_L0_0 m n (.l l) (.i k) (.i pre.length) k0 k1 = k1 (.i ((k + ctWord post : Nat) : Int))
  | [], pre, k, he, h, hk, hb, hs, n, hn, k0, k1 => by
    obtain ⟨n, rfl⟩ : ∃ m', n = m' + 1 := ⟨n - 1, by omega⟩
    subst he
    simp only [laws_heldWordS_L0_0, T.int_i, T.rows_l]
    rw [dec_f (by simp [mkWord])]
    rfl
  | x :: post, pre, k, he, h, hk, hb, hs, n, hn, k0, k1 => by
    obtain ⟨n, rfl⟩ : ∃ m', n = m' + 1 := ⟨n - 1, by omega⟩
    simp only [List.length_cons] at hs hn
    obtain ⟨hx, hp⟩ := h
    obtain ⟨hz, ⟨hl3, hs3⟩⟩ := hx
    match x, hz with
    | [c0, c1, c2, c3, c4], _ =>
    simp only [ctWord, List.getD_cons_zero, List.getD_cons_succ] at hb
    simp only [List.getD_cons_zero, List.getD_cons_succ] at hl3 hs3
    have ih := heldWordS_loop m hm l post (pre ++ [[.i ((k : Nat) : Int), .i (((k + 1) : Nat) : Int), .i ((((k + 1) + 1) : Nat) : Int), .l (mkOp (m - 1) (((k + 1) + 1) + 1) (c3.rows)), .b ((Int.tmod ((((((k + 1) + 1) + 1) + ctOp (c3.rows)) : Nat) : Int) 3) == 0)]]) ((((((k + 1) + 1) + 1) + ctOp (c3.rows)) + 1)) (by rw [he]; simp [mkWord]) hp (by omega) (by omega) (by simp; omega) n (by omega) k0 k1
    rw [len_snoc] at ih
    subst he
    have hml := mkWord_len m post ((((((k + 1) + 1) + 1) + ctOp (c3.rows)) + 1))
    simp only [laws_heldWordS_L0_0, T.int_i, T.rows_l, T.str_s, T.bool_b, mkWord, ix_row, List.drop_succ_cons, List.drop_zero, List.getD_cons_zero, List.getD_cons_succ, ix_nx pre (by omega), wr1 (k := ((((k + 1) + 1) + 1) + ctOp (c3.rows))) (by omega), wr1 (k := ((k + 1) + 1)) (by omega), wr1 (k := (k + 1)) (by omega), wr1 (k := k) (by omega), beq_toList_self, bne_self_eq_false, beq_self_eq_true, Bool.not_true, cond_false]
    rw [dec_t (by simp <;> omega)]
    repeat (first | (rw [heldOpS_ok (m := m) (by omega) c3.rows hs3 hl3 ((((k + 1) + 1) + 1)) (by omega) (by omega)]; simp only [T.int_i, T.rows_l, T.str_s, T.bool_b, mkWord, ix_row, List.drop_succ_cons, List.drop_zero, List.getD_cons_zero, List.getD_cons_succ, ix_nx pre (by omega), wr1 (k := ((((k + 1) + 1) + 1) + ctOp (c3.rows))) (by omega), wr1 (k := ((k + 1) + 1)) (by omega), wr1 (k := (k + 1)) (by omega), wr1 (k := k) (by omega), beq_toList_self, bne_self_eq_false, beq_self_eq_true, Bool.not_true, cond_false]; rw [dec_f (by omega)]) | rw [dec_t (by simp <;> omega)] | rw [markText_ok (by omega) (by omega) (by omega)] | rw [dec_f (by omega)] | simp only [T.int_i, T.rows_l, T.str_s, T.bool_b, mkWord, ix_row, List.drop_succ_cons, List.drop_zero, List.getD_cons_zero, List.getD_cons_succ, ix_nx pre (by omega), wr1 (k := ((((k + 1) + 1) + 1) + ctOp (c3.rows))) (by omega), wr1 (k := ((k + 1) + 1)) (by omega), wr1 (k := (k + 1)) (by omega), wr1 (k := k) (by omega), beq_toList_self, bne_self_eq_false, beq_self_eq_true, Bool.not_true, cond_false])
    refine ih.trans ?_
    have e : (((((k + 1) + 1) + 1) + ctOp (c3.rows)) + 1) + ctWord post = k + (ctWord ([c0, c1, c2, c3, c4] :: post)) := by simp only [ctWord, List.getD_cons_zero, List.getD_cons_succ]; omega
    rw [e]
theorem heldWordS_ok {m : Nat} (hm : 4000027 ≤ m) (rows : List (List T)) (h : shWord rows) (hl : rows.length ≤ 1048576) (k : Nat) (hk : 0 < k) (hs : k + ctWord rows ≤ 4000000) (K : T → An) :
    laws_heldWordS m (.l (mkWord (m - 1) k rows)) (.i k) K = K (.i ((k + ctWord rows : Nat) : Int)) := by
  obtain ⟨m, rfl⟩ : ∃ m', m = m' + 1 := ⟨m - 1, by omega⟩
  simp only [laws_heldWordS, T.rows_l]
  exact heldWordS_loop m (by omega) _ rows [] k rfl h hk hs (by simpa using hl) m (by omega) _ _
theorem eqrWord_ok {m : Nat} (hm : 4000026 ≤ m) (x : List T) (h3 : shOp (x.getD 3 dflt).rows) (l3 : (x.getD 3 dflt).rows.length ≤ 1048576) (k : T → An) : laws_eqWord m (x.getD 0 dflt) (x.getD 1 dflt) (x.getD 2 dflt) (.l (x.getD 3 dflt).rows) (x.getD 4 dflt) (x.getD 0 dflt) (x.getD 1 dflt) (x.getD 2 dflt) (.l (x.getD 3 dflt).rows) (x.getD 4 dflt) k = k (.b true) := by
  obtain ⟨m, rfl⟩ : ∃ m', m = m' + 1 := ⟨m - 1, by omega⟩
  simp only [laws_eqWord, T.int_i, T.rows_l, T.str_s, T.bool_b, beq_toList_self, bne_self_eq_false, beq_self_eq_true, Bool.not_true, cond_false]
  rw [eqvOpS_ok (by omega) _ h3 l3]
  try simp only [T.int_i, T.rows_l, T.str_s, T.bool_b, beq_toList_self, bne_self_eq_false, beq_self_eq_true, Bool.not_true, cond_false]
theorem eqvWordS_loop (m : Nat) (hm : 4000026 ≤ m) : ∀ (post pre : List (List T)), shWord post → pre.length + post.length ≤ 1048576 → ∀ n, post.length < n → ∀ k0 k1, laws_eqWordS_L0_0 m n (.l (pre ++ post)) (.l (pre ++ post)) (.i pre.length) k0 k1 = k1
  | [], pre, h, hs, n, hn, k0, k1 => by
    obtain ⟨n, rfl⟩ : ∃ m', n = m' + 1 := ⟨n - 1, by omega⟩
    simp only [laws_eqWordS_L0_0, T.int_i, T.rows_l]
    rw [dec_f (by simp)]
  | x :: post, pre, h, hs, n, hn, k0, k1 => by
    obtain ⟨n, rfl⟩ : ∃ m', n = m' + 1 := ⟨n - 1, by omega⟩
    simp only [List.length_cons] at hs hn
    obtain ⟨hx, hp⟩ := h
    obtain ⟨hz, ⟨hl3, hs3⟩⟩ := hx
    have ih := eqvWordS_loop m hm post (pre ++ [x]) hp (by simp; omega) n (by omega) k0 k1
    rw [len_snoc, List.append_assoc, List.singleton_append] at ih
    simp only [laws_eqWordS_L0_0, ix_row, ix_nx pre (by omega), T.int_i, T.rows_l, T.str_s, T.bool_b, beq_toList_self, bne_self_eq_false, beq_self_eq_true, Bool.not_true, cond_false]
    rw [dec_t (by simp <;> omega), dec_t (by simp <;> omega), dec_t (by simp <;> omega)]
    rw [eqrWord_ok (m := m) (by omega) x hs3 hl3]
    simp only [T.int_i, T.rows_l, T.str_s, T.bool_b, beq_toList_self, bne_self_eq_false, beq_self_eq_true, Bool.not_true, cond_false]
    exact ih
theorem eqvWordS_ok {m : Nat} (hm : 4000027 ≤ m) (rows : List (List T)) (h : shWord rows) (hl : rows.length ≤ 1048576) (k : T → An) : laws_eqWordS m (.l rows) (.l rows) k = k (.b true) := by
  obtain ⟨m, rfl⟩ : ∃ m', m = m' + 1 := ⟨m - 1, by omega⟩
  simp only [laws_eqWordS, T.rows_l, T.int_i, bne_self_eq_false, cond_false]
  exact eqvWordS_loop m (by omega) rows [] h (by simpa using hl) m (by omega) _ _
end Go.Proofs.YtajahiglgcogeaaGreat

namespace Go.Proofs.YtajahiglgcogeaaGreat
open Go Go.E Go.Proofs
theorem l1In_ok {m : Nat} (hm : 1 ≤ m) (x a b : Int) (k : T → An) : spec_l1In m (.i x) (.i a) (.i b) k = k (.b (decide (a ≤ x ∧ x ≤ b))) := by
  obtain ⟨m, rfl⟩ : ∃ m', m = m' + 1 := ⟨m - 1, by omega⟩
  simp only [spec_l1In, T.int_i]
  by_cases h : a ≤ x
  · rw [cond_t (by simp [h])]; simp [h]
  · rw [cond_f (by simp; omega)]; simp [h]
theorem inRange_ok {m : Nat} (hm : 1 ≤ m) (x a b : Int) (k : T → An) : impl_inRange m (.i x) (.i a) (.i b) k = k (.b (decide (a ≤ x ∧ x ≤ b))) := by
  obtain ⟨m, rfl⟩ : ∃ m', m = m' + 1 := ⟨m - 1, by omega⟩
  simp only [impl_inRange, T.int_i]
  by_cases h : a ≤ x
  · rw [cond_t (by simp [h])]; simp [h]
  · rw [cond_f (by simp; omega)]; simp [h]

def isKeyB (b : UInt8) : Bool := (decide (97 ≤ b.toNat) && decide (b.toNat ≤ 122)) || (decide (48 ≤ b.toNat) && decide (b.toNat ≤ 57))
def plain (s : ByteArray) : Bool := s.data.toList.all isKeyB
def keyOkP (s : ByteArray) : Bool := plain s && decide (1 ≤ s.size ∧ s.size ≤ 12)
theorem ix_byte (pre : List UInt8) (x : UInt8) (post : List UInt8) : (pre ++ x :: post).getD (Int.toNat (pre.length : Int)) 0 = x := by simp [List.getD]
theorem l1In2 {m : Nat} (hm : 1 ≤ m) (x a b : Int) (k : T → An) : spec_l1In m (.i x) (.i a) (.i b) k = k (.b (decide (a ≤ x) && decide (x ≤ b))) := by
  rw [l1In_ok hm, Bool.decide_and]
theorem inRange2 {m : Nat} (hm : 1 ≤ m) (x a b : Int) (k : T → An) : impl_inRange m (.i x) (.i a) (.i b) k = k (.b (decide (a ≤ x) && decide (x ≤ b))) := by
  rw [inRange_ok hm, Bool.decide_and]
theorem isKeyByte_ok {m : Nat} (hm : 1 ≤ m) (b : UInt8) (k : T → An) : impl_isKeyByte m (.i (b.toNat : Int)) k = k (.b (isKeyB b)) := by
  obtain ⟨m, rfl⟩ : ∃ m', m = m' + 1 := ⟨m - 1, by omega⟩
  have e1 : decide ((b.toNat : Int) ≥ 97) = decide (97 ≤ b.toNat) := decide_eq_decide.2 (by omega)
  have e2 : decide ((b.toNat : Int) ≤ 122) = decide (b.toNat ≤ 122) := decide_eq_decide.2 (by omega)
  have e3 : decide ((b.toNat : Int) ≥ 48) = decide (48 ≤ b.toNat) := decide_eq_decide.2 (by omega)
  have e4 : decide ((b.toNat : Int) ≤ 57) = decide (b.toNat ≤ 57) := decide_eq_decide.2 (by omega)
  simp only [impl_isKeyByte, T.int_i, e1, e2, e3, e4, isKeyB]
  cases decide (97 ≤ b.toNat) <;> cases decide (b.toNat ≤ 122) <;> cases decide (48 ≤ b.toNat) <;> rfl
theorem isWord_loop (m : Nat) (hm : 1 ≤ m) (s : ByteArray) (hs : s.size ≤ 4611686018427387904) : ∀ (post pre : List UInt8), s.data.toList = pre ++ post →
    ∀ n, post.length < n → ∀ k0 k1, impl_isWord_L0_0 m n (.s s) (.i pre.length) k0 k1 = cond (post.all isKeyB) k1 (k0 (.b false))
  | [], pre, e, n, hn, k0, k1 => by
    obtain ⟨n, rfl⟩ : ∃ m', n = m' + 1 := ⟨n - 1, by omega⟩
    have hz := ba_size s
    rw [e] at hz
    simp only [impl_isWord_L0_0, T.int_i, T.str_s]
    rw [dec_f (by simp at hz; omega)]
    rfl
  | x :: post, pre, e, n, hn, k0, k1 => by
    obtain ⟨n, rfl⟩ : ∃ m', n = m' + 1 := ⟨n - 1, by omega⟩
    have hz := ba_size s
    rw [e] at hz
    simp only [List.length_append, List.length_cons] at hz hn
    simp only [impl_isWord_L0_0, T.int_i, T.str_s, e, ix_byte, ix_next pre x (by omega)]
    rw [dec_t (by omega), dec_t (by omega), isKeyByte_ok hm]
    have ih := isWord_loop m hm s hs post (pre ++ [x]) (by rw [e]; simp) n (by omega) k0 k1
    cases hx : isKeyB x with
    | true => simpa [hx] using ih
    | false => simp [hx]
theorem isWord_ok {m : Nat} (s : ByteArray) (hs : s.size ≤ 1048576) (hm : 1048580 ≤ m) (k : T → An) : impl_isWord m (.s s) k = k (.b (plain s)) := by
  obtain ⟨m, rfl⟩ : ∃ m', m = m' + 1 := ⟨m - 1, by omega⟩
  have hz := ba_size s
  refine (isWord_loop m (by omega) s (by omega) s.data.toList [] rfl m (by omega) (fun y => k y) (k (.b true))).trans ?_
  unfold plain
  cases s.data.toList.all isKeyB <;> rfl
theorem byteIn {m : Nat} (hm : 1 ≤ m) (x : UInt8) (a b : Int) (k : T → An) : spec_l1In m (.i (IntKind.i64.wrap (x.toNat : Int))) (.i a) (.i b) k = k (.b (decide (a ≤ x.toNat) && decide ((x.toNat : Int) ≤ b))) := by
  have hx := x.toNat_lt
  rw [wrap_i64 (by omega) (by omega), l1In2 hm]
theorem keyOk_loop (m : Nat) (hm : 1 ≤ m) (s : ByteArray) (hs : s.size ≤ 4611686018427387904) : ∀ (post pre : List UInt8), s.data.toList = pre ++ post →
    ∀ n, post.length < n → ∀ k0 k1, spec_KeyOk_L0_0 m n (.s s) (.i pre.length) k0 k1 = cond (post.all isKeyB) (k1 (.s s)) (k0 (.b false))
  | [], pre, e, n, hn, k0, k1 => by
    obtain ⟨n, rfl⟩ : ∃ m', n = m' + 1 := ⟨n - 1, by omega⟩
    have hz := ba_size s
    rw [e] at hz
    simp only [spec_KeyOk_L0_0, T.int_i, T.str_s]
    rw [dec_f (by simp at hz; omega)]
    rfl
  | x :: post, pre, e, n, hn, k0, k1 => by
    obtain ⟨n, rfl⟩ : ∃ m', n = m' + 1 := ⟨n - 1, by omega⟩
    have hz := ba_size s
    rw [e] at hz
    simp only [List.length_append, List.length_cons] at hz hn
    simp only [spec_KeyOk_L0_0, T.int_i, T.str_s, e, ix_byte, ix_next pre x (by omega)]
    rw [dec_t (by omega), dec_t (by omega), byteIn hm, byteIn hm, dec_t (by omega)]
    have ih := keyOk_loop m hm s hs post (pre ++ [x]) (by rw [e]; simp) n (by omega) k0 k1
    have e1 : decide ((97 : Int) ≤ x.toNat) = decide (97 ≤ x.toNat) := decide_eq_decide.2 (by omega)
    have e2 : decide ((x.toNat : Int) ≤ 122) = decide (x.toNat ≤ 122) := decide_eq_decide.2 (by omega)
    have e3 : decide ((48 : Int) ≤ x.toNat) = decide (48 ≤ x.toNat) := decide_eq_decide.2 (by omega)
    have e4 : decide ((x.toNat : Int) ≤ 57) = decide (x.toNat ≤ 57) := decide_eq_decide.2 (by omega)
    simp only [e1, e2, e3, e4, List.all_cons, isKeyB, T.bool_b, ih]
    cases (decide (97 ≤ x.toNat) && decide (x.toNat ≤ 122)) <;> cases (decide (48 ≤ x.toNat) && decide (x.toNat ≤ 57)) <;> rfl
theorem dec_nat12 (n : Nat) : (decide ((1 : Int) ≤ n) && decide ((n : Int) ≤ 12)) = decide (1 ≤ n ∧ n ≤ 12) := by
  rw [Bool.decide_and]
  congr 1 <;> exact decide_eq_decide.2 (by omega)
theorem specKeyOk_ok {m : Nat} (s : ByteArray) (hs : s.size ≤ 1048576) (hm : 1048580 ≤ m) (k : T → An) : spec_KeyOk m (.s s) k = k (.b (keyOkP s)) := by
  obtain ⟨m, rfl⟩ : ∃ m', m = m' + 1 := ⟨m - 1, by omega⟩
  have hz := ba_size s
  refine (keyOk_loop m (by omega) s (by omega) s.data.toList [] rfl m (by omega) _ _).trans ?_
  simp only [T.str_s, keyOkP, plain]
  rw [l1In2 (by omega), dec_nat12]
  cases s.data.toList.all isKeyB <;> rfl
theorem implKeyOk_ok {m : Nat} (s : ByteArray) (hs : s.size ≤ 1048576) (hm : 1048581 ≤ m) (k : T → An) : impl_KeyOk m (.s s) k = k (.b (keyOkP s)) := by
  obtain ⟨m, rfl⟩ : ∃ m', m = m' + 1 := ⟨m - 1, by omega⟩
  simp only [impl_KeyOk, T.str_s, keyOkP]
  rw [inRange2 (by omega), dec_nat12, isWord_ok s hs (by omega)]
  cases decide (1 ≤ s.size ∧ s.size ≤ 12) <;> cases plain s <;> rfl
def blt (a b : ByteArray) : Bool := Op.bytesLess a.toList b.toList
theorem bl_tri : ∀ a b : List UInt8, (Op.bytesLess a b || a == b) = !Op.bytesLess b a
  | [], [] => rfl
  | [], y :: b => rfl
  | x :: a, [] => rfl
  | x :: a, y :: b => by
    have ih := bl_tri a b
    simp only [Op.bytesLess, List.cons_beq_cons]
    rcases Nat.lt_trichotomy x.toNat y.toNat with h | h | h
    · have h1 : x < y := UInt8.lt_iff_toNat_lt.2 h
      have h2 : ¬ y < x := fun h' => by have := UInt8.lt_iff_toNat_lt.1 h'; omega
      have h3 : (x == y) = false := by simp; intro e; subst e; omega
      have h4 : (y == x) = false := by simp; intro e; subst e; omega
      simp [h1, h2, h3, h4]
    · obtain rfl : x = y := UInt8.toNat_inj.1 h
      have h2 : ¬ x < x := fun h' => by have := UInt8.lt_iff_toNat_lt.1 h'; omega
      simp only [h2, decide_false, Bool.false_or, beq_self_eq_true, Bool.true_and, ih]
    · have h1 : ¬ x < y := fun h' => by have := UInt8.lt_iff_toNat_lt.1 h'; omega
      have h2 : y < x := UInt8.lt_iff_toNat_lt.2 h
      have h3 : (x == y) = false := by simp; intro e; subst e; omega
      simp [h1, h2, h3]
end Go.Proofs.YtajahiglgcogeaaGreat

namespace Go.Proofs.YtajahiglgcogeaaGreat
open Go Go.E Go.Proofs
def hashN (h : Nat) : List UInt8 → Nat
  | [] => h
  | b :: r => hashN (((h ^^^ b.toNat) * 16777619) % 4294967296) r
theorem wrap_u32 (x : Nat) : IntKind.u32.wrap (x : Int) = ((x % 4294967296 : Nat) : Int) := by
  have e32 : (2 : Int) ^ 32 = 4294967296 := by decide
  simp only [IntKind.wrap, IntKind.bits, IntKind.signed, Bool.false_and, Bool.false_eq_true, if_false, e32]
  omega
theorem ofInt_nat (w x : Nat) : BitVec.ofInt w (x : Int) = BitVec.ofNat w x := by simp
theorem xor_lt32 {a b : Nat} (ha : a < 4294967296) (hb : b < 4294967296) : a ^^^ b < 4294967296 := Nat.xor_lt_two_pow (n := 32) ha hb
theorem step32 (h : Nat) (hh : h < 4294967296) (b : UInt8) :
    IntKind.u32.wrap ((bvBack .u32 (BitVec.ofInt IntKind.u32.bits (h : Int) ^^^ BitVec.ofInt IntKind.u32.bits (IntKind.u32.wrap (b.toNat : Int)))).int * 16777619) = ((((h ^^^ b.toNat) * 16777619) % 4294967296 : Nat) : Int) := by
  have hb := b.toNat_lt
  have e1 : b.toNat % 4294967296 = b.toNat := Nat.mod_eq_of_lt (by omega)
  have hx := xor_lt32 hh (show b.toNat < 4294967296 by omega)
  simp only [bvBack, T.int_i, wrap_u32, e1, ofInt_nat]
  have e2 : (BitVec.ofNat IntKind.u32.bits h ^^^ BitVec.ofNat IntKind.u32.bits b.toNat).toNat = h ^^^ b.toNat := by
    rw [BitVec.toNat_xor, BitVec.toNat_ofNat, BitVec.toNat_ofNat]
    show (h % 2 ^ 32) ^^^ (b.toNat % 2 ^ 32) = _
    rw [Nat.mod_eq_of_lt (by simpa using hh), Nat.mod_eq_of_lt (by omega)]
  rw [e2, Nat.mod_eq_of_lt hx, show (((h ^^^ b.toNat : Nat) : Int) * 16777619) = (((h ^^^ b.toNat) * 16777619 : Nat) : Int) by rw [Int.natCast_mul]; rfl, wrap_u32]
theorem step64 (h : Nat) (hh : h < 4294967296) (b : UInt8) :
    bvBack .i64 (BitVec.ofInt IntKind.i64.bits (IntKind.i64.wrap ((bvBack .i64 (BitVec.ofInt IntKind.i64.bits (h : Int) ^^^ BitVec.ofInt IntKind.i64.bits (IntKind.i64.wrap (b.toNat : Int)))).int * 16777619)) &&& BitVec.ofInt IntKind.i64.bits 4294967295) =
      .i ((((h ^^^ b.toNat) * 16777619) % 4294967296 : Nat) : Int) := by
  have hb := b.toNat_lt
  have hx := xor_lt32 hh (show b.toNat < 4294967296 by omega)
  rw [wrap_i64 (x := (b.toNat : Int)) (by omega) (by omega)]
  have e2 : (BitVec.ofInt IntKind.i64.bits (h : Int) ^^^ BitVec.ofInt IntKind.i64.bits (b.toNat : Int)).toNat = h ^^^ b.toNat := by
    rw [ofInt_nat, ofInt_nat, BitVec.toNat_xor, BitVec.toNat_ofNat, BitVec.toNat_ofNat]
    show (h % 2 ^ 64) ^^^ (b.toNat % 2 ^ 64) = _
    rw [Nat.mod_eq_of_lt (by omega), Nat.mod_eq_of_lt (by omega)]
  simp only [bvBack, T.int_i, e2]
  rw [wrap_i64 (x := ((h ^^^ b.toNat : Nat) : Int)) (by omega) (by omega), show (((h ^^^ b.toNat : Nat) : Int) * 16777619) = (((h ^^^ b.toNat) * 16777619 : Nat) : Int) by rw [Int.natCast_mul]; rfl,
    wrap_i64 (x := (((h ^^^ b.toNat) * 16777619 : Nat) : Int)) (by omega) (by omega)]
  have e3 : (BitVec.ofInt IntKind.i64.bits (((h ^^^ b.toNat) * 16777619 : Nat) : Int) &&& BitVec.ofInt IntKind.i64.bits 4294967295).toNat = ((h ^^^ b.toNat) * 16777619) % 4294967296 := by
    rw [ofInt_nat, show (4294967295 : Int) = ((4294967295 : Nat) : Int) from rfl, ofInt_nat, BitVec.toNat_and, BitVec.toNat_ofNat, BitVec.toNat_ofNat]
    show (((h ^^^ b.toNat) * 16777619) % 2 ^ 64) &&& (4294967295 % 2 ^ 64) = _
    rw [Nat.mod_eq_of_lt (by omega)]
    exact Nat.and_two_pow_sub_one_eq_mod _ 32
  rw [e3]
  rw [wrap_i64 (by omega) (by omega)]
theorem implHash_loop (m : Nat) (s : ByteArray) (hs : s.size ≤ 4611686018427387904) : ∀ (post pre : List UInt8) (h : Nat), h < 4294967296 → s.data.toList = pre ++ post → ∀ n, post.length < n → ∀ k0,
    impl_Hash_L0_0 m n (.s s) (.i h) (.i pre.length) k0 = k0 (.i (hashN h post : Nat))
  | [], pre, h, hh, e, n, hn, k0 => by
    obtain ⟨n, rfl⟩ : ∃ m', n = m' + 1 := ⟨n - 1, by omega⟩
    have hz := ba_size s
    rw [e] at hz
    simp only [impl_Hash_L0_0, T.int_i, T.str_s]
    rw [dec_f (by simp at hz; omega)]
    rfl
  | x :: post, pre, h, hh, e, n, hn, k0 => by
    obtain ⟨n, rfl⟩ : ∃ m', n = m' + 1 := ⟨n - 1, by omega⟩
    have hz := ba_size s
    rw [e] at hz
    simp only [List.length_append, List.length_cons] at hz hn
    simp only [impl_Hash_L0_0, T.int_i, T.str_s, e, ix_byte, ix_nx pre (by omega), step32 h hh x]
    rw [dec_t (by omega), dec_t (by omega)]
    have ih := implHash_loop m s hs post (pre ++ [x]) _ (Nat.mod_lt ((h ^^^ x.toNat) * 16777619) (by omega)) (by rw [e]; simp) n (by omega) k0
    rw [len_snoc] at ih
    exact ih
theorem specHash_loop (m : Nat) (s : ByteArray) (hs : s.size ≤ 4611686018427387904) : ∀ (post pre : List UInt8) (h : Nat), h < 4294967296 → s.data.toList = pre ++ post → ∀ n, post.length < n → ∀ k0,
    spec_Hash_L0_0 m n (.s s) (.i h) (.i pre.length) k0 = k0 (.i (hashN h post : Nat))
  | [], pre, h, hh, e, n, hn, k0 => by
    obtain ⟨n, rfl⟩ : ∃ m', n = m' + 1 := ⟨n - 1, by omega⟩
    have hz := ba_size s
    rw [e] at hz
    simp only [spec_Hash_L0_0, T.int_i, T.str_s]
    rw [dec_f (by simp at hz; omega)]
    rfl
  | x :: post, pre, h, hh, e, n, hn, k0 => by
    obtain ⟨n, rfl⟩ : ∃ m', n = m' + 1 := ⟨n - 1, by omega⟩
    have hz := ba_size s
    rw [e] at hz
    simp only [List.length_append, List.length_cons] at hz hn
    simp only [spec_Hash_L0_0, T.int_i, T.str_s, e, ix_byte, ix_nx pre (by omega), step64 h hh x]
    rw [dec_t (by omega), dec_t (by omega)]
    have ih := specHash_loop m s hs post (pre ++ [x]) _ (Nat.mod_lt ((h ^^^ x.toNat) * 16777619) (by omega)) (by rw [e]; simp) n (by omega) k0
    rw [len_snoc] at ih
    exact ih
theorem hashN_lt : ∀ (l : List UInt8) (h : Nat), h < 4294967296 → hashN h l < 4294967296
  | [], h, hh => hh
  | b :: r, h, hh => hashN_lt r _ (Nat.mod_lt _ (by omega))
def hashP (s : ByteArray) : Nat := hashN 2166136261 s.data.toList
theorem hashP_lt (s : ByteArray) : hashP s < 4294967296 := hashN_lt _ _ (by omega)
theorem implHash_ok {m : Nat} (s : ByteArray) (hs : s.size ≤ 1048576) (hm : 1048580 ≤ m) (k : T → An) : impl_Hash m (.s s) k = k (.i (hashP s : Nat)) := by
  obtain ⟨m, rfl⟩ : ∃ m', m = m' + 1 := ⟨m - 1, by omega⟩
  have hz := ba_size s
  have hl := hashP_lt s
  refine (implHash_loop m s (by omega) s.data.toList [] 2166136261 (by omega) rfl m (by omega) _).trans ?_
  rw [T.int_i]
  exact congrArg (fun x => k (T.i x)) (wrap_i64 (x := (hashP s : Nat)) (by omega) (by omega))
theorem specHash_ok {m : Nat} (s : ByteArray) (hs : s.size ≤ 1048576) (hm : 1048580 ≤ m) (k : T → An) : spec_Hash m (.s s) k = k (.i (hashP s : Nat)) := by
  obtain ⟨m, rfl⟩ : ∃ m', m = m' + 1 := ⟨m - 1, by omega⟩
  have hz := ba_size s
  exact specHash_loop m s (by omega) s.data.toList [] 2166136261 (by omega) rfl m (by omega) _
/-- ShardOf -/
def shardP (s : ByteArray) (n : Int) : Nat := if n < 1 then 0 else hashP s % n.toNat
theorem shardP_lt (s : ByteArray) (n : Int) : shardP s n < 4294967296 := by
  unfold shardP
  split
  · omega
  · exact Nat.lt_of_le_of_lt (Nat.mod_le _ _) (hashP_lt s)
theorem implShard_ok {m : Nat} (s : ByteArray) (n : Int) (hs : s.size ≤ 1048576) (hm : 1048585 ≤ m) (k : T → An) : impl_ShardOf m (.s s) (.i n) k = k (.i (shardP s n : Nat)) := by
  obtain ⟨m, rfl⟩ : ∃ m', m = m' + 1 := ⟨m - 1, by omega⟩
  simp only [impl_ShardOf, T.int_i]
  unfold shardP
  by_cases h : n < 1
  · rw [dec_t h, if_pos h]; rfl
  · obtain ⟨j, rfl⟩ : ∃ j : Nat, n = j := ⟨n.toNat, by omega⟩
    rw [dec_f h, implHash_ok s hs (by omega), if_neg h, cond_t (by simp; omega)]
    rw [T.int_i, ← Int.ofNat_tmod]; rfl
theorem specShard_ok {m : Nat} (s : ByteArray) (n : Int) (hs : s.size ≤ 1048576) (hm : 1048585 ≤ m) (k : T → An) : spec_ShardOf m (.s s) (.i n) k = k (.i (shardP s n : Nat)) := by
  obtain ⟨m, rfl⟩ : ∃ m', m = m' + 1 := ⟨m - 1, by omega⟩
  simp only [spec_ShardOf, T.int_i]
  unfold shardP
  by_cases h : n < 1
  · rw [dec_t h, if_pos h]; rfl
  · obtain ⟨j, rfl⟩ : ∃ j : Nat, n = j := ⟨n.toNat, by omega⟩
    rw [dec_f h, specHash_ok s hs (by omega), if_neg h, cond_t (by simp; omega)]
    rw [T.int_i, ← Int.ofNat_tmod]; rfl
end Go.Proofs.YtajahiglgcogeaaGreat

namespace Go.Proofs.YtajahiglgcogeaaGreat
open Go Go.E Go.Proofs
/-! lists of numbers in order, each once -/
theorem sorted_ext : ∀ {l l' : List Int}, l.Pairwise (· < ·) → l'.Pairwise (· < ·) → (∀ x, x ∈ l ↔ x ∈ l') → l = l'
  | [], [], _, _, _ => rfl
  | [], b :: l', _, _, h => by have := (h b).2 (by simp); cases this
  | a :: l, [], _, _, h => by have := (h a).1 (by simp); cases this
  | a :: l, b :: l', h1, h2, h => by
    rw [List.pairwise_cons] at h1 h2
    have hab : a = b := by
      have ha := (h a).1 (by simp)
      have hb := (h b).2 (by simp)
      rcases List.mem_cons.1 ha with e | ha
      · exact e
      · rcases List.mem_cons.1 hb with e | hb
        · exact e.symm
        · have := h1.1 b hb; have := h2.1 a ha; omega
    subst hab
    congr 1
    refine sorted_ext h1.2 h2.2 fun x => ⟨fun hx => ?_, fun hx => ?_⟩
    · rcases List.mem_cons.1 ((h x).1 (List.mem_cons_of_mem _ hx)) with e | hx'
      · subst e; have := h1.1 x hx; omega
      · exact hx'
    · rcases List.mem_cons.1 ((h x).2 (List.mem_cons_of_mem _ hx)) with e | hx'
      · subst e; have := h2.1 x hx; omega
      · exact hx'
/-- where a number goes: 'r': what is ahead, the last first -/
def putS (n : Int) : List Int → List Int → List Int
  | [], s => n :: s
  | p :: r, s => if p > n then putS n r (p :: s) else (p :: r).reverse ++ n :: s
theorem putS_mem (n x : Int) : ∀ (r s : List Int), x ∈ putS n r s ↔ x = n ∨ x ∈ r ∨ x ∈ s
  | [], s => by simp [putS]
  | p :: r, s => by
    unfold putS
    split
    · rw [putS_mem n x r (p :: s)]; simp only [List.mem_cons]; grind
    · simp only [List.mem_append, List.mem_reverse, List.mem_cons]; grind
theorem putS_sorted (n : Int) : ∀ (r s : List Int), (r.reverse ++ s).Pairwise (· < ·) → n ∉ r → (∀ x ∈ s, n < x) → (putS n r s).Pairwise (· < ·)
  | [], s, h, _, hs => by
    simp only [putS, List.pairwise_cons]
    exact ⟨hs, by simpa using h⟩
  | p :: r, s, h, hn, hs => by
    simp only [List.mem_cons, not_or] at hn
    unfold putS
    split
    · rename_i hp
      refine putS_sorted n r (p :: s) (by simpa using h) hn.2 fun x hx => ?_
      rcases List.mem_cons.1 hx with rfl | hx
      · exact hp
      · exact hs x hx
    · rename_i hp
      rw [List.pairwise_append] at h ⊢
      have h0 := h.1
      rw [List.reverse_cons, List.pairwise_append] at h0
      refine ⟨h.1, List.pairwise_cons.2 ⟨hs, h.2.1⟩, fun a ha b hb => ?_⟩
      have hpn : p < n := by omega
      have hap : a ≤ p := by
        rw [List.reverse_cons, List.mem_append] at ha
        rcases ha with ha | ha
        · have := h0.2.2 a ha p (by simp); omega
        · have : a = p := by simpa using ha
          omega
      rcases List.mem_cons.1 hb with rfl | hb
      · omega
      · have := hs b hb; omega
def putU (l : List Int) (n : Int) : List Int := if n ∈ l then l else putS n l.reverse []
theorem putU_mem (l : List Int) (n x : Int) : x ∈ putU l n ↔ x = n ∨ x ∈ l := by
  unfold putU
  split
  · grind
  · rw [putS_mem]; simp
theorem putU_sorted (l : List Int) (n : Int) (h : l.Pairwise (· < ·)) : (putU l n).Pairwise (· < ·) := by
  unfold putU
  split
  · exact h
  · exact putS_sorted n _ _ (by simpa using h) (by simpa using ‹_›) (fun x h => (nomatch h))
def foldU : List Int → List Int → List Int
  | acc, [] => acc
  | acc, x :: xs => foldU (putU acc x) xs
theorem foldU_mem (y : Int) : ∀ (xs acc : List Int), y ∈ foldU acc xs ↔ y ∈ acc ∨ y ∈ xs
  | [], acc => by simp [foldU]
  | x :: xs, acc => by
    simp only [foldU]
    rw [foldU_mem y xs, putU_mem]; simp only [List.mem_cons]; grind
theorem foldU_sorted : ∀ (xs acc : List Int), acc.Pairwise (· < ·) → (foldU acc xs).Pairwise (· < ·)
  | [], acc, h => h
  | x :: xs, acc, h => foldU_sorted xs _ (putU_sorted acc x h)
theorem putS_len (n : Int) : ∀ (r s : List Int), (putS n r s).length = r.length + s.length + 1
  | [], s => by simp [putS]
  | p :: r, s => by
    unfold putS
    split
    · rw [putS_len n r (p :: s)]; simp; omega
    · simp; omega
theorem putU_len (l : List Int) (n : Int) : (putU l n).length ≤ l.length + 1 := by
  unfold putU
  split
  · omega
  · rw [putS_len]; simp
theorem foldU_len : ∀ (xs acc : List Int), (foldU acc xs).length ≤ acc.length + xs.length
  | [], acc => by simp [foldU]
  | x :: xs, acc => by
    have := foldU_len xs (putU acc x)
    have := putU_len acc x
    simp only [foldU, List.length_cons]; omega
/-- what Compact leaves of a list in order -/
theorem compact_go (d : Array Int) (hs : ∀ i j, i ≤ j → j < d.size → d[i]! ≤ d[j]!) : ∀ m, m ≤ d.size → (Lib.compactUpTo d m).Pairwise (· < ·) ∧ (∀ x, x ∈ Lib.compactUpTo d m ↔ ∃ j, j < m ∧ d[j]! = x)
  | 0, _ => by simp [Lib.compactUpTo]
  | m + 1, hm => by
    obtain ⟨h1, h2⟩ := compact_go d hs m (by omega)
    rw [Lib.compactUpTo_succ]
    cases hk : Lib.keeps d m with
    | true =>
      simp only [if_true]
      refine ⟨List.pairwise_append.2 ⟨h1, by simp, fun a ha b hb => ?_⟩, fun x => ?_⟩
      · have : b = d[m]! := by simpa using hb
        subst this
        obtain ⟨j, hj, rfl⟩ := (h2 a).1 ha
        have hk := of_decide_eq_true hk
        have e1 := hs j (m - 1) (by omega) (by omega)
        have e2 := hs (m - 1) m (by omega) (by omega)
        have e3 : d[m]! ≠ d[m - 1]! := hk.resolve_left (by omega)
        omega
      · rw [List.mem_append, h2]
        constructor
        · rintro (⟨j, hj, e⟩ | e)
          · exact ⟨j, by omega, e⟩
          · exact ⟨m, by omega, (List.mem_singleton.1 e).symm⟩
        · rintro ⟨j, hj, e⟩
          by_cases h : j = m
          · subst h; right; simp [e]
          · left; exact ⟨j, by omega, e⟩
    | false =>
      have hk := of_decide_eq_false hk
      simp only [not_or, Decidable.not_not] at hk
      simp only [Bool.false_eq_true, if_false, List.append_nil]
      refine ⟨h1, fun x => ?_⟩
      rw [h2]
      constructor
      · rintro ⟨j, hj, e⟩; exact ⟨j, by omega, e⟩
      · rintro ⟨j, hj, e⟩
        by_cases h : j = m
        · subst h; exact ⟨j - 1, by omega, by rw [← hk.2]; exact e⟩
        · exact ⟨j, by omega, e⟩
theorem shards_eq (xs : List Int) : Lib.compact (xs.mergeSort fun x y => decide (x ≤ y)) = foldU [] xs := by
  have hp := List.pairwise_mergeSort (le := fun x y : Int => decide (x ≤ y)) (by intro a b c h1 h2; simp at *; omega) (by intro a b; simp; omega) xs
  have hperm := List.mergeSort_perm xs fun x y => decide (x ≤ y)
  obtain ⟨h1, h2⟩ := compact_go (xs.mergeSort fun x y => decide (x ≤ y)).toArray (fun i j hij hj => by
    simp only [List.size_toArray] at hj
    rw [getElem!_pos _ i (by simp only [List.size_toArray]; omega), getElem!_pos _ j (by simp only [List.size_toArray]; omega)]
    by_cases h : i = j
    · subst h; omega
    · have := List.pairwise_iff_getElem.1 hp i j (by omega) hj (by omega)
      simpa using this) (xs.mergeSort fun x y => decide (x ≤ y)).length (by simp)
  refine sorted_ext h1 (foldU_sorted xs [] (by simp)) fun x => ?_
  show x ∈ Lib.compactUpTo _ _ ↔ _
  rw [h2, foldU_mem]
  simp only [List.not_mem_nil, false_or]
  rw [← hperm.mem_iff (a := x)]
  constructor
  · rintro ⟨j, hj, e⟩
    rw [getElem!_pos _ j (by simpa using hj)] at e
    rw [← e]; simp
  · intro hx
    obtain ⟨j, hj, e⟩ := List.mem_iff_getElem.1 hx
    exact ⟨j, hj, by rw [getElem!_pos _ j (by simpa using hj)]; simpa using e⟩
end Go.Proofs.YtajahiglgcogeaaGreat

namespace Go.Proofs.YtajahiglgcogeaaGreat
open Go Go.E Go.Proofs
/-! the functions on lists of numbers -/
theorem ir_app (a b : List Int) : ir (a ++ b) = ir a ++ ir b := by simp [ir]
theorem ir_cons (x : Int) (b : List Int) : ir (x :: b) = iRow x :: ir b := rfl
theorem ir_one (x : Int) : [[T.i x]] = ir [x] := rfl
theorem has_loop (m : Nat) (x : Int) : ∀ (post pre : List Int), pre.length + post.length ≤ 4611686018427387 → ∀ n, post.length < n → ∀ k0 k1,
    spec_l7Has_L0_0 m n (.l (ir (pre ++ post))) (.i x) (.i pre.length) k0 k1 = cond (decide (x ∈ post)) (k0 (.b true)) k1
  | [], pre, hs, n, hn, k0, k1 => by
    obtain ⟨n, rfl⟩ : ∃ m', n = m' + 1 := ⟨n - 1, by omega⟩
    simp only [spec_l7Has_L0_0, T.int_i, T.rows_l]
    rw [dec_f (by simp [ir_len]), dec_f (by simp)]
  | y :: post, pre, hs, n, hn, k0, k1 => by
    obtain ⟨n, rfl⟩ : ∃ m', n = m' + 1 := ⟨n - 1, by omega⟩
    simp only [List.length_cons] at hs hn
    have ih := has_loop m x post (pre ++ [y]) (by simp; omega) n (by omega) k0 k1
    have e1 : (ir (pre ++ y :: post)).getD (Int.toNat (pre.length : Int)) [] = iRow y := by
      have := ix_row (ir pre) (iRow y) (ir post)
      rw [ir_len] at this
      rw [ir_app, ir_cons]; exact this
    simp only [spec_l7Has_L0_0, T.int_i, T.rows_l, e1, ix_nx pre (by omega)]
    rw [dec_t (by simp [ir_len]; omega), dec_t (by simp [ir_len]; omega)]
    simp only [List.append_assoc, List.cons_append, List.nil_append, len_snoc] at ih
    simp only [iRow, List.getD_cons_zero, T.int_i]
    by_cases h : y = x
    · subst h
      rw [cond_t (by simp), dec_t (by simp)]
    · rw [cond_f (beq_eq_false_iff_ne.2 h), ih]
      by_cases h2 : x ∈ post
      · rw [dec_t h2, dec_t (by simp [h2])]
      · rw [dec_f h2, dec_f (by simp [h2, Ne.symm h])]
theorem has_ok {m : Nat} (l : List Int) (x : Int) (hl : l.length ≤ 1048576) (hm : 1048580 ≤ m) (k : T → An) : spec_l7Has m (.l (ir l)) (.i x) k = k (.b (decide (x ∈ l))) := by
  obtain ⟨m, rfl⟩ : ∃ m', m = m' + 1 := ⟨m - 1, by omega⟩
  refine (has_loop m x l [] (by simp; omega) m (by omega) _ _).trans ?_
  by_cases h : x ∈ l
  · rw [dec_t h, decide_eq_true h]
  · rw [dec_f h, decide_eq_false h]
theorem mid_get (a : List Int) (x : Int) (b : List (List T)) : (ir a ++ iRow x :: b).getD a.length [] = iRow x := by
  rw [← ir_len a]; simp [List.getD]
theorem mid_set (a : List Int) (x : List T) (y : List T) (b : List (List T)) : (ir a ++ x :: b).set a.length y = ir a ++ y :: b := by
  rw [← ir_len a]; simp [List.set_append]
def putEnd (k : T → An) : T → T → T → An := fun y1 y2 y3 => cond (decide ((0 : Int) ≤ y2.int ∧ y2.int < (y3.rows.length : Int)))
    (cond (decide ((Int.toNat y2.int) < y3.rows.length))
    (k (T.l (y3.rows.set (Int.toNat y2.int) ((y3.rows.getD (Int.toNat y2.int) []).set 0 y1))))
    (.bad))
    (.bad)
theorem putEnd_ok (k : T → An) (a : List Int) (x z : Int) (s : List Int) : putEnd k (.i x) (.i a.length) (.l (ir a ++ iRow z :: ir s)) = k (.l (ir (a ++ x :: s))) := by
  simp only [putEnd, T.int_i, T.rows_l, Int.toNat_natCast]
  rw [dec_t (by simp [ir_len]; omega), dec_t (by simp [ir_len]), mid_get, mid_set, ir_app, ir_cons]
  rfl
theorem put_loop (m : Nat) (x : Int) (k : T → An) : ∀ (r s : List Int) (z : Int), r.length + s.length ≤ 4611686018427387 → ∀ n, r.length < n →
    spec_l7Put_L0_0 m n (.i x) (.i r.length) (.l (ir r.reverse ++ iRow z :: ir s)) (putEnd k) = k (.l (ir (putS x r s)))
  | [], s, z, hs, n, hn => by
    obtain ⟨n, rfl⟩ : ∃ m', n = m' + 1 := ⟨n - 1, by omega⟩
    simp only [spec_l7Put_L0_0, jn, T.int_i, T.rows_l, List.length_nil, List.reverse_nil]
    rw [cond_f (by simp)]
    exact putEnd_ok k [] x z s
  | p :: r, s, z, hs, n, hn => by
    obtain ⟨n, rfl⟩ : ∃ m', n = m' + 1 := ⟨n - 1, by omega⟩
    simp only [List.length_cons] at hs hn
    have ih := put_loop m x k r (p :: s) p (by simp; omega) n (by omega)
    have e0 : IntKind.i64.wrap (((r.length + 1 : Nat) : Int) - 1) = (r.length : Int) := by rw [wrap_i64 (by omega) (by omega)]; omega
    have e1 : ir (p :: r).reverse ++ iRow z :: ir s = ir r.reverse ++ iRow p :: iRow z :: ir s := by
      rw [List.reverse_cons, ir_app]; simp [ir]
    have e2 : (ir r.reverse ++ iRow p :: iRow z :: ir s).getD r.length [] = iRow p := by
      have := mid_get r.reverse p (iRow z :: ir s)
      rwa [List.length_reverse] at this
    have e4 : (ir r.reverse ++ iRow p :: iRow z :: ir s).getD (r.length + 1) [] = iRow z := by
      have := mid_get (r.reverse ++ [p]) z (ir s)
      rw [ir_app] at this
      simpa [ir] using this
    have e5 : (ir r.reverse ++ iRow p :: iRow z :: ir s).set (r.length + 1) (iRow p) = ir r.reverse ++ iRow p :: ir (p :: s) := by
      have := mid_set (r.reverse ++ [p]) (iRow z) (iRow p) (ir s)
      rw [ir_app] at this
      simpa [ir] using this
    have e6 : (ir r.reverse ++ iRow p :: iRow z :: ir s).length = r.length + s.length + 2 := by simp [ir_len]; omega
    simp only [spec_l7Put_L0_0, jn, T.int_i, T.rows_l, List.length_cons, e0, e1, Int.toNat_natCast, e2, e4, e6]
    rw [cond_t (by simp), dec_t (by omega), dec_t (by omega)]
    have e7 : ((iRow p).getD 0 dflt).int = p := rfl
    have e8 : (iRow z).set 0 ((iRow p).getD 0 dflt) = iRow p := rfl
    rw [e7, e8]
    unfold putS
    by_cases hp : p > x
    · rw [dec_t hp, dec_t (by omega), dec_t (by omega), dec_t (by omega), dec_t (by omega), e5, if_pos hp]
      exact ih
    · rw [dec_f hp, if_neg hp, ← e1]
      have := putEnd_ok k (p :: r).reverse x z s
      rw [List.length_reverse, List.length_cons] at this
      exact this
theorem put_ok {m : Nat} (l : List Int) (x : Int) (hl : l.length ≤ 1048576) (hm : 1048600 ≤ m) (k : T → An) : spec_l7Put m (.l (ir l)) (.i x) k = k (.l (ir (putU l x))) := by
  obtain ⟨m, rfl⟩ : ∃ m', m = m' + 1 := ⟨m - 1, by omega⟩
  simp only [spec_l7Put, T.rows_l, ir_len]
  rw [has_ok l x hl (by omega)]
  simp only [T.bool_b]
  unfold putU
  by_cases h : x ∈ l
  · rw [dec_t h, if_pos h]
  · rw [dec_f h, if_neg h, dec_t (by unfold maxRow; omega), dec_t (by unfold maxRow; omega)]
    have e1 : IntKind.i64.wrap (((ir l ++ [[T.i x]]).length : Nat) - 1 : Int) = (l.reverse.length : Int) := by
      rw [wrap_i64 (by first | (simp [ir_len]; done) | (simp [ir_len]; omega)) (by first | (simp [ir_len]; done) | (simp [ir_len]; omega))]; simp [ir_len]
    rw [e1]
    have := put_loop m x k l.reverse [] x (by simp; omega) m (by simp; omega)
    rw [List.reverse_reverse] at this
    exact this
/-! shards of operations -/
def opsSh (ops : List (List T)) (n : Int) : List Int := ops.map fun r => ((shardP (r.getD 1 dflt).str n : Nat) : Int)
def OpRow (r : List T) : Prop := ∃ (a : Int) (x y : ByteArray), r = [.i a, .s x, .s y] ∧ x.size ≤ 1048576
theorem specSh_loop (m : Nat) (hm : 1048700 ≤ m) (x1 : Int) (k1 : T → An) : ∀ (post pre : List (List T)) (acc : List Int), (∀ r ∈ post, OpRow r) → acc.length + post.length ≤ 1048576 → pre.length + post.length ≤ 1048576 → ∀ n, post.length < n → ∀ k0,
    spec_ShardsOf_L0_1 m n (.l (pre ++ post)) (.i x1) (.l (ir acc)) (.i pre.length) k0 k1 = k0 (.l (ir (foldU acc (opsSh post x1))))
  | [], pre, acc, _, hs, hs2, n, hn, k0 => by
    obtain ⟨n, rfl⟩ : ∃ m', n = m' + 1 := ⟨n - 1, by omega⟩
    simp only [spec_ShardsOf_L0_1, T.int_i, T.rows_l]
    rw [dec_f (by simp)]
    rfl
  | x :: post, pre, acc, ho, hs, hs2, n, hn, k0 => by
    obtain ⟨n, rfl⟩ : ∃ m', n = m' + 1 := ⟨n - 1, by omega⟩
    simp only [List.length_cons] at hs hs2 hn
    obtain ⟨a, key, val, rfl, hk⟩ := ho x (by simp)
    have hpl := putU_len acc ((shardP key x1 : Nat) : Int)
    have ih := specSh_loop m hm x1 k1 post (pre ++ [[.i a, .s key, .s val]]) (putU acc ((shardP key x1 : Nat) : Int)) (fun r hr => ho r (by simp [hr])) (by omega) (by simp; omega) n (by omega) k0
    simp only [spec_ShardsOf_L0_1, T.int_i, T.rows_l, ix_row, ix_nx pre (by omega), List.drop_succ_cons, List.drop_zero, List.getD_cons_zero]
    rw [dec_t (by simp; omega), dec_t (by simp; omega), specShard_ok key x1 hk (by omega), put_ok acc _ (by omega) (by omega)]
    simp only [List.append_assoc, List.cons_append, List.nil_append, len_snoc] at ih
    simp only [T.rows_l]
    exact ih
theorem specSh_ok {m : Nat} (ops : List (List T)) (n : Int) (ho : ∀ r ∈ ops, OpRow r) (hl : ops.length ≤ 1048576) (hm : 1048710 ≤ m) (k : T → An) : spec_ShardsOf m (.l ops) (.i n) k = k (.l (ir (foldU [] (opsSh ops n)))) := by
  obtain ⟨m, rfl⟩ : ∃ m', m = m' + 1 := ⟨m - 1, by omega⟩
  obtain ⟨m', rfl⟩ : ∃ m', m = m' + 1 := ⟨m - 1, by omega⟩
  simp only [spec_ShardsOf, T.rows_l]
  cases ops with
  | nil =>
    simp only [spec_ShardsOf_L0_0, T.int_i, T.rows_l]
    rw [dec_f (by simp)]
    rfl
  | cons x post =>
    simp only [List.length_cons] at hl
    obtain ⟨a, key, val, rfl, hk⟩ := ho x (by simp)
    have hpl := putU_len [] ((shardP key n : Nat) : Int)
    simp only [List.length_nil] at hpl
    have e := specSh_loop (m' + 1) (by omega) n (fun y5 => k (T.l y5.rows)) post [[.i a, .s key, .s val]] (putU [] ((shardP key n : Nat) : Int)) (fun r hr => ho r (by simp [hr])) (by omega) (by simp; omega) m' (by omega) (fun y4 => k (T.l y4.rows))
    simp only [spec_ShardsOf_L0_0, T.int_i, T.rows_l, List.length_cons]
    rw [dec_t (by omega), dec_t (by omega)]
    have e1 : ([.i a, .s key, .s val] :: post).getD (Int.toNat 0) [] = [.i a, .s key, .s val] := rfl
    rw [e1]
    simp only [List.drop_succ_cons, List.drop_zero, List.getD_cons_zero]
    rw [specShard_ok key n hk (by omega)]
    have e2 := put_ok (m := m' + 1) [] ((shardP key n : Nat) : Int) (by simp) (by omega)
    have e3 : (T.l [] : T) = .l (ir []) := rfl
    rw [e3, e2]
    simp only [T.rows_l]
    have e4 : IntKind.i64.wrap (0 + 1) = (([[T.i a, .s key, .s val]].length : Nat) : Int) := (by decide : IntKind.i64.wrap (0 + 1) = ((1 : Nat) : Int))
    rw [e4]
    exact e
theorem implSh_loop (m : Nat) (hm : 1048700 ≤ m) (x0 : Int) : ∀ (post pre : List (List T)) (acc : List Int), (∀ r ∈ post, OpRow r) → acc.length + post.length ≤ 1048576 → pre.length + post.length ≤ 1048576 → ∀ n, post.length < n → ∀ k0,
    impl_ShardsOf_L0_0 m n (.i x0) (.l (pre ++ post)) (.i (pre ++ post).length) (.i pre.length) (.l (ir acc)) k0 = k0 (.l (ir (acc ++ opsSh post x0)))
  | [], pre, acc, _, hs, hs2, n, hn, k0 => by
    obtain ⟨n, rfl⟩ : ∃ m', n = m' + 1 := ⟨n - 1, by omega⟩
    simp only [impl_ShardsOf_L0_0, T.int_i, T.rows_l]
    rw [dec_f (by simp)]
    simp [opsSh]
  | x :: post, pre, acc, ho, hs, hs2, n, hn, k0 => by
    obtain ⟨n, rfl⟩ : ∃ m', n = m' + 1 := ⟨n - 1, by omega⟩
    simp only [List.length_cons] at hs hs2 hn
    obtain ⟨a, key, val, rfl, hk⟩ := ho x (by simp)
    have ih := implSh_loop m hm x0 post (pre ++ [[.i a, .s key, .s val]]) (acc ++ [((shardP key x0 : Nat) : Int)]) (fun r hr => ho r (by simp [hr])) (by simp; omega) (by simp; omega) n (by omega) k0
    simp only [impl_ShardsOf_L0_0, T.int_i, T.rows_l, ix_row, ix_nx pre (by omega), List.getD_cons_succ, List.getD_cons_zero]
    rw [dec_t (by simp; omega), dec_t (by simp; omega), implShard_ok key x0 hk (by omega), dec_t (by rw [ir_len]; unfold maxRow; omega)]
    simp only [List.append_assoc, List.cons_append, List.nil_append, len_snoc] at ih
    rw [ir_one, ← ir_app]
    exact ih
theorem implSh_ok {m : Nat} (ops : List (List T)) (n : Int) (ho : ∀ r ∈ ops, OpRow r) (hl : ops.length ≤ 1048576) (hm : 1048710 ≤ m) (k : T → An) : impl_ShardsOf m (.l ops) (.i n) k = k (.l (ir (foldU [] (opsSh ops n)))) := by
  obtain ⟨m, rfl⟩ : ∃ m', m = m' + 1 := ⟨m - 1, by omega⟩
  simp only [impl_ShardsOf, T.rows_l]
  refine (implSh_loop m (by omega) n ops [] [] ho (by simp; omega) (by simp; omega) m (by omega) _).trans ?_
  obtain ⟨m, rfl⟩ : ∃ m', m = m' + 1 := ⟨m - 1, by omega⟩
  simp only [List.nil_append, T.rows_l, slices_Sort, slices_Compact, slices_Clip___int_int_]
  have e1 : sortRows (ir (opsSh ops n)) = ir ((opsSh ops n).mergeSort fun x y => decide (x ≤ y)) := sortRows_i _
  have e2 : compactRows (ir ((opsSh ops n).mergeSort fun x y => decide (x ≤ y))) = ir (foldU [] (opsSh ops n)) := (compactRows_i _).trans (congrArg (List.map iRow) (shards_eq _))
  rw [e1, e2, dec_t (by omega), dec_t (by omega), Int.toNat_natCast, List.take_length]
end Go.Proofs.YtajahiglgcogeaaGreat

