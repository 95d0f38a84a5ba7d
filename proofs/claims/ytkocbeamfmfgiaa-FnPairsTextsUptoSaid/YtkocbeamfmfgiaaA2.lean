/- A part of the proof: texts S1QT, S1QD, S1QE, S1QF, S1QG, S1QI: see the last part's opening words. -/
import Derived.Test.YtkocbeamfmfgiaaA1
set_option linter.unusedVariables false
set_option linter.unusedSimpArgs false
set_option linter.unnecessarySimpa false
namespace Go.Proofs.Ytkocbeamfmfgiaa
open Go Go.E Go.Proofs
abbrev BA := ByteArray
/-! pairs -/
def rP (p : BA × BA) : List T := [.s p.1, .s p.2]
def szP (p : BA × BA) : Nat := p.1.size + p.2.size
def szPs (ps : List (BA × BA)) : Nat := ps.length + (ps.map szP).sum
theorem le_sum {n : Nat} : ∀ {l : List Nat}, n ∈ l → n ≤ l.sum
  | a :: l, h => by
    rw [List.sum_cons]
    rcases List.mem_cons.1 h with rfl | h
    · omega
    · have := le_sum h; omega
/-! the two texts -/
def eqW : BA := ⟨#[61]⟩
def spW : BA := ⟨#[32]⟩
def wordOf (p : BA × BA) : BA := p.1 ++ eqW ++ p.2
def joined : List BA → BA
  | [] => ⟨#[]⟩
  | [x] => x
  | x :: y :: r => x ++ spW ++ joined (y :: r)
theorem implPairsText_loop (m : Nat) : ∀ (post pre : List (BA × BA)), pre.length + post.length ≤ 1048576 → (∀ p ∈ post, szP p ≤ 1048576) →
    ∀ n, post.length < n → ∀ k0, impl_PairsText_L0_0 m n (.l ((pre ++ post).map rP)) (.i (pre ++ post).length) (.i pre.length) (.l (pre.map fun p => [T.s (wordOf p)])) k0 = k0 (.l ((pre ++ post).map fun p => [T.s (wordOf p)]))
  | [], pre, hs, hz, n, hn, k0 => by
    obtain ⟨n, rfl⟩ : ∃ m', n = m' + 1 := ⟨n - 1, by omega⟩
    simp only [impl_PairsText_L0_0, T.int_i, T.rows_l]
    rw [dec_f (by simp)]
    simp
  | x :: post, pre, hs, hz, n, hn, k0 => by
    obtain ⟨n, rfl⟩ : ∃ m', n = m' + 1 := ⟨n - 1, by omega⟩
    simp only [List.length_cons] at hs hn ⊢
    have h1 := hz x (by simp)
    unfold szP at h1
    simp only [impl_PairsText_L0_0, T.int_i, T.rows_l, ix_get, ix_next pre x (by omega)]
    have e1 : (⟨#[61]⟩ : BA).size = 1 := rfl
    simp only [rP, List.getD_cons_zero, List.getD_cons_succ, T.str_s, ba_app_size, e1]
    rw [dec_t (by simp; omega), dec_t (by simp; omega), dec_t (by omega), dec_t (by omega), dec_t (by simp [maxRow]; omega)]
    have := implPairsText_loop m post (pre ++ [x]) (by simp; omega) (fun p hp => hz p (by simp [hp])) n (by omega) k0
    rw [List.append_assoc] at this
    refine Eq.trans ?_ this
    congr 2
    simp [wordOf, eqW]
/-- what spec's loop has behind some pairs -/
def specAcc (acc : BA) (i : Nat) : List (BA × BA) → BA
  | [] => acc
  | p :: r => specAcc ((if i = 0 then acc else acc ++ spW) ++ p.1 ++ eqW ++ p.2) (i + 1) r
theorem specPairsText_loop (m : Nat) : ∀ (post pre : List (BA × BA)) (acc : BA), pre.length + post.length ≤ 1048576 → acc.size + 2 * post.length + (post.map szP).sum ≤ 4194304 →
    ∀ n, post.length < n → ∀ k0, spec_PairsText_L0_0 m n (.l ((pre ++ post).map rP)) (.s acc) (.i pre.length) k0 = k0 (.s (specAcc acc pre.length post))
  | [], pre, acc, hs, hz, n, hn, k0 => by
    obtain ⟨n, rfl⟩ : ∃ m', n = m' + 1 := ⟨n - 1, by omega⟩
    simp only [spec_PairsText_L0_0, T.int_i, T.rows_l]
    rw [dec_f (by simp)]
    simp [specAcc]
  | x :: post, pre, acc, hs, hz, n, hn, k0 => by
    obtain ⟨n, rfl⟩ : ∃ m', n = m' + 1 := ⟨n - 1, by omega⟩
    simp only [List.length_cons, List.map_cons, List.sum_cons, szP] at hs hn hz ⊢
    simp only [spec_PairsText_L0_0, T.int_i, T.rows_l, ix_get, ix_next pre x (by omega), specAcc]
    have e1 : (⟨#[61]⟩ : BA) = eqW := rfl
    have e2 : (⟨#[32]⟩ : BA) = spW := rfl
    have s1 : eqW.size = 1 := rfl
    have s2 : spW.size = 1 := rfl
    simp only [rP, List.getD_cons_zero, List.getD_cons_succ, T.str_s, ba_app_size, e1, e2, s1, s2, List.drop_succ_cons, List.drop_zero]
    rw [dec_t (by simp; omega)]
    by_cases h0 : pre.length = 0
    · rw [dec_f (by omega), dec_t (by simp; omega), dec_t (by omega), dec_t (by omega), dec_t (by simp; omega), dec_t (by omega), if_pos h0]
      have := specPairsText_loop m post (pre ++ [x]) (acc ++ x.1 ++ eqW ++ x.2) (by simp; omega) (by simp [s1]; omega) n (by omega) k0
      rw [List.append_assoc] at this
      simpa using this
    · rw [dec_t (by omega), dec_t (by omega), dec_t (by simp; omega), dec_t (by omega), dec_t (by omega), dec_t (by simp; omega), dec_t (by omega), if_neg h0]
      have := specPairsText_loop m post (pre ++ [x]) (acc ++ spW ++ x.1 ++ eqW ++ x.2) (by simp; omega) (by simp [s1, s2]; omega) n (by omega) k0
      rw [List.append_assoc] at this
      simpa using this
theorem joinB_cons (x : BA) (r : List BA) (d : BA) : (joinB ((x :: r).map fun x => [T.s x]) (.s d)).data.toList = x.data.toList ++ Lib.joinTail d.data.toList (r.map (·.data.toList)) := by
  unfold joinB
  simp only [List.map_cons, List.map_map, List.getD_cons_zero, T.str_s, Lib.join_cons]
  rfl
theorem specAcc_tail : ∀ (r : List (BA × BA)) (acc : BA) (i : Nat), 0 < i → (specAcc acc i r).data.toList = acc.data.toList ++ Lib.joinTail spW.data.toList (r.map fun p => (wordOf p).data.toList)
  | [], acc, i, h => by simp [specAcc, Lib.joinTail]
  | p :: r, acc, i, h => by
    rw [specAcc, specAcc_tail r _ (i + 1) (by omega), if_neg (by omega)]
    simp [Lib.joinTail, wordOf]
theorem texts_eq (ps : List (BA × BA)) (h : ps ≠ []) : joinB (ps.map fun p => [T.s (wordOf p)]) (.s spW) = specAcc ⟨#[]⟩ 0 ps := by
  match ps, h with
  | p :: r, _ =>
    apply ba_ext
    have e : ((p :: r).map fun p => [T.s (wordOf p)]) = ((wordOf p :: r.map wordOf).map fun x => [T.s x]) := by simp
    rw [e, joinB_cons, specAcc, specAcc_tail _ _ 1 (by omega), if_pos rfl]
    have e2 : (fun p : BA × BA => (wordOf p).data.toList) = fun p => p.1.data.toList ++ (eqW.data.toList ++ p.2.data.toList) := by funext p; simp [wordOf]
    simp only [List.map_map, Lib.joinTail, Function.comp_def, e2]
    simp [wordOf]
theorem specAcc_size : ∀ (r : List (BA × BA)) (acc : BA) (i : Nat), (specAcc acc i r).size ≤ acc.size + 2 * r.length + (r.map szP).sum
  | [], acc, i => by simp [specAcc]
  | p :: r, acc, i => by
    have h1 := specAcc_size r ((if i = 0 then acc else acc ++ spW) ++ p.1 ++ eqW ++ p.2) (i + 1)
    have s1 : eqW.size = 1 := rfl
    have s2 : spW.size = 1 := rfl
    have e : szP p = p.1.size + p.2.size := rfl
    rw [specAcc, List.length_cons, List.map_cons, List.sum_cons]
    by_cases hi : i = 0
    · rw [if_pos hi] at h1 ⊢
      simp only [ba_app_size, s1] at h1
      omega
    · rw [if_neg hi] at h1 ⊢
      simp only [ba_app_size, s1, s2] at h1
      omega
theorem specPairsText_ok {m : Nat} (ps : List (BA × BA)) (h : szPs ps ≤ 1048576) (h0 : ps ≠ []) (hm : ps.length + 2 ≤ m) (k : T → An) : spec_PairsText m (.l (ps.map rP)) k = k (.s (specAcc ⟨#[]⟩ 0 ps)) := by
  obtain ⟨m, rfl⟩ : ∃ m', m = m' + 1 := ⟨m - 1, by omega⟩
  unfold szPs at h
  have hl : 0 < ps.length := List.length_pos_iff.2 h0
  simp only [spec_PairsText, T.rows_l, List.length_map]
  rw [show (((ps.length : Nat) : Int) == 0) = false from by simp [List.length_eq_zero_iff, h0], cond_false]
  exact specPairsText_loop m ps [] ⟨#[]⟩ (by simp; omega) (by have e : (⟨#[]⟩ : BA).size = 0 := rfl
                                                              omega) m (by omega) _
theorem implPairsText_ok {m : Nat} (ps : List (BA × BA)) (h : szPs ps ≤ 1048576) (h0 : ps ≠ []) (hm : ps.length + 2 ≤ m) (k : T → An) : impl_PairsText m (.l (ps.map rP)) k = k (.s (specAcc ⟨#[]⟩ 0 ps)) := by
  obtain ⟨m, rfl⟩ : ∃ m', m = m' + 1 := ⟨m - 1, by omega⟩
  unfold szPs at h
  simp only [impl_PairsText, T.rows_l, List.length_map]
  rw [show (((ps.length : Nat) : Int) == 0) = false from by simp [List.length_eq_zero_iff, h0], cond_false]
  have hz : ∀ p ∈ ps, szP p ≤ 1048576 := fun p hp => by
    have := le_sum (List.mem_map_of_mem (f := szP) hp)
    omega
  refine (implPairsText_loop m ps [] (by simp; omega) hz m (by omega) _).trans ?_
  obtain ⟨m, rfl⟩ : ∃ m', m = m' + 1 := ⟨m - 1, by omega⟩
  have h1 := specAcc_size ps ⟨#[]⟩ 0
  have e : (⟨#[]⟩ : BA).size = 0 := rfl
  have e2 : (⟨#[32]⟩ : BA) = spW := rfl
  simp only [strings_Join, T.rows_l, List.nil_append, e2, texts_eq ps h0]
  rw [dec_t (by unfold maxCells; omega)]
theorem pairsText_nil {m : Nat} (hm : 1 ≤ m) (k : T → An) : impl_PairsText m (.l []) k = spec_PairsText m (.l []) k := by
  obtain ⟨m, rfl⟩ : ∃ m', m = m' + 1 := ⟨m - 1, by omega⟩
  simp [impl_PairsText, spec_PairsText]
theorem spec_nil {m : Nat} (hm : 1 ≤ m) (k : T → An) : ∃ s, spec_PairsText m (.l []) k = k (.s s) := by
  obtain ⟨m, rfl⟩ : ∃ m', m = m' + 1 := ⟨m - 1, by omega⟩
  exact ⟨_, by simp [spec_PairsText]; rfl⟩
/-- both texts are one -/
theorem pairsText_ok {m : Nat} (ps : List (BA × BA)) (h : szPs ps ≤ 1048576) (hm : ps.length + 2 ≤ m) :
    ∃ s, (∀ k, impl_PairsText m (.l (ps.map rP)) k = k (.s s)) ∧ (∀ k, spec_PairsText m (.l (ps.map rP)) k = k (.s s)) := by
  by_cases h0 : ps = []
  · subst h0
    obtain ⟨m, rfl⟩ : ∃ m', m = m' + 1 := ⟨m - 1, by omega⟩
    exact ⟨_, fun k => by simp [impl_PairsText]; rfl, fun k => by simp [spec_PairsText]⟩
  · exact ⟨_, implPairsText_ok ps h h0 hm, specPairsText_ok ps h h0 hm⟩
end Go.Proofs.Ytkocbeamfmfgiaa

namespace Go.Proofs.Ytkocbeamfmfgiaa
open Go Go.E Go.Proofs
theorem bv255 (x : BitVec IntKind.i64.bits) : ∃ r : Int, bvBack .i64 (x &&& BitVec.ofInt IntKind.i64.bits 255) = .i r ∧ 0 ≤ r ∧ r ≤ 255 := by
  have h : (x &&& BitVec.ofInt IntKind.i64.bits 255).toNat ≤ 255 := by
    rw [BitVec.toNat_and]
    exact Nat.le_trans Nat.and_le_right (Nat.le_of_eq rfl)
  refine ⟨((x &&& BitVec.ofInt IntKind.i64.bits 255).toNat : Int), ?_, by omega, by omega⟩
  unfold bvBack
  rw [wrap_i64 (by omega) (by omega)]
/-- where a cursor stands: within its bytes -/
def At (b : List (List T)) (i : Int) : Prop := 0 ≤ i ∧ i ≤ b.length ∧ b.length ≤ 1048576
theorem l1Byte_ok {m : Nat} (hm : 1 ≤ m) {b : List (List T)} {i : Int} (h : At b i) (x : T) :
    ∃ (r i' : Int) (x' : T), 0 ≤ r ∧ r ≤ 255 ∧ At b i' ∧ ∀ k, spec_l1Byte m (.l b) (.i i) x k = k (.i r) (.l b) (.i i') x' := by
  obtain ⟨m, rfl⟩ : ∃ m', m = m' + 1 := ⟨m - 1, by omega⟩
  obtain ⟨h1, h2, h3⟩ := h
  by_cases hi : i < b.length
  · obtain ⟨r, hr, r1, r2⟩ := bv255 (BitVec.ofInt IntKind.i64.bits (IntKind.i64.wrap ((bvBack .i64 (BitVec.ofInt IntKind.i64.bits (bvBack .i64 (BitVec.ofInt IntKind.i64.bits (Int.fdiv (IntKind.i64.wrap ((IntKind.i64.wrap (x.int * 6364136223846793005)) + 1442695040888963407)) (2 ^ (min (Int.toNat 33) IntKind.i64.bits))) ^^^ BitVec.ofInt IntKind.i64.bits (Int.fdiv (IntKind.i64.wrap ((IntKind.i64.wrap (x.int * 6364136223846793005)) + 1442695040888963407)) (2 ^ (min (Int.toNat 47) IntKind.i64.bits))))).int &&& BitVec.ofInt IntKind.i64.bits 255)).int + (IntKind.i64.wrap ((b.getD (Int.toNat i) []).getD 0 dflt).int))))
    refine ⟨r, i + 1, T.i (IntKind.i64.wrap ((IntKind.i64.wrap (x.int * 6364136223846793005)) + 1442695040888963407)), r1, r2, ⟨by omega, by omega, h3⟩, fun k => ?_⟩
    simp only [spec_l1Byte, T.int_i, T.rows_l]
    rw [dec_t hi, dec_t ⟨h1, hi⟩, hr, wrap_i64 (x := i + 1) (by omega) (by omega)]
  · obtain ⟨r, hr, r1, r2⟩ := bv255 (BitVec.ofInt IntKind.i64.bits (bvBack .i64 (BitVec.ofInt IntKind.i64.bits (Int.fdiv (IntKind.i64.wrap ((IntKind.i64.wrap (x.int * 6364136223846793005)) + 1442695040888963407)) (2 ^ (min (Int.toNat 33) IntKind.i64.bits))) ^^^ BitVec.ofInt IntKind.i64.bits (Int.fdiv (IntKind.i64.wrap ((IntKind.i64.wrap (x.int * 6364136223846793005)) + 1442695040888963407)) (2 ^ (min (Int.toNat 47) IntKind.i64.bits))))).int)
    refine ⟨r, i, T.i (IntKind.i64.wrap ((IntKind.i64.wrap (x.int * 6364136223846793005)) + 1442695040888963407)), r1, r2, ⟨h1, h2, h3⟩, fun k => ?_⟩
    simp only [spec_l1Byte, T.int_i, T.rows_l]
    rw [dec_f hi, hr]
theorem l1Below_ok {m : Nat} (hm : 2 ≤ m) {b : List (List T)} {i : Int} (h : At b i) (x : T) {n : Int} (h1 : 1 ≤ n) (h2 : n ≤ 256) :
    ∃ (r i' : Int) (x' : T), 0 ≤ r ∧ r < n ∧ At b i' ∧ ∀ k, spec_l1Below m (.l b) (.i i) x (.i n) k = k (.i r) (.l b) (.i i') x' := by
  obtain ⟨m, rfl⟩ : ∃ m', m = m' + 1 := ⟨m - 1, by omega⟩
  obtain ⟨r, i', x', r1, r2, hi, hk⟩ := l1Byte_ok (m := m) (by omega) h x
  refine ⟨Int.tmod r n, i', x', Int.tmod_nonneg _ r1, Int.tmod_lt_of_pos _ (by omega), hi, fun k => ?_⟩
  simp only [spec_l1Below, T.int_i, T.rows_l]
  rw [dec_f (by omega), dec_t h2, hk]
  simp only [T.int_i, T.rows_l]
  rw [show (!decide (n = 0)) = true from by simp; omega, cond_true]
theorem l1Str_ok {m : Nat} (hm : 3 ≤ m) {b : List (List T)} {i : Int} (h : At b i) (x : T) (l : List BA) (h1 : 1 ≤ l.length) (h2 : l.length ≤ 256) :
    ∃ (a : BA) (i' : Int) (x' : T), a ∈ l ∧ At b i' ∧ ∀ k, spec_l1Str m (.l b) (.i i) x (.l (l.map fun a => [T.s a])) k = k (.s a) (.l b) (.i i') x' := by
  obtain ⟨m, rfl⟩ : ∃ m', m = m' + 1 := ⟨m - 1, by omega⟩
  obtain ⟨r, i', x', r1, r2, hi, hk⟩ := l1Below_ok (m := m) (by omega) h x (n := l.length) (by omega) (by omega)
  have hlt : r.toNat < l.length := by omega
  refine ⟨l[r.toNat], i', x', List.getElem_mem hlt, hi, fun k => ?_⟩
  simp only [spec_l1Str, T.int_i, T.rows_l, List.length_map]
  rw [hk]
  simp only [T.int_i, T.rows_l]
  rw [dec_t ⟨r1, r2⟩]
  have e : (l.map fun a => [T.s a]).getD r.toNat [] = [T.s l[r.toNat]] := by
    rw [List.getD_eq_getElem?_getD, List.getElem?_map, List.getElem?_eq_getElem hlt]; rfl
  rw [e]; rfl
def keyL : List BA := [⟨#[97]⟩, ⟨#[98]⟩, ⟨#[99]⟩, ⟨#[107, 49]⟩, ⟨#[107, 50]⟩, ⟨#[109]⟩, ⟨#[122]⟩]
def valL : List BA := [⟨#[]⟩, ⟨#[49]⟩, ⟨#[50]⟩, ⟨#[120]⟩, ⟨#[118, 97, 108, 117, 101]⟩, ⟨#[0]⟩]
def oddL : List BA := [⟨#[]⟩, ⟨#[65]⟩, ⟨#[97, 32, 98]⟩, ⟨#[116, 104, 105, 114, 116, 101, 101, 110, 98, 121, 116, 101, 115]⟩, ⟨#[116, 119, 101, 108, 118, 101, 98, 121, 116, 101, 115, 49]⟩]
def KeyG (a : BA) : Prop := a.size ≤ 32
def ValG (a : BA) : Prop := a.size ≤ 32 ∧ (32 : UInt8) ∉ a.data.toList
theorem keyL_ok : ∀ a ∈ keyL, KeyG a := by unfold KeyG; decide
theorem oddL_ok : ∀ a ∈ oddL, KeyG a := by unfold KeyG; decide
theorem valL_ok : ∀ a ∈ valL, ValG a := by unfold ValG; decide
theorem l3Key_ok {m : Nat} (hm : 4 ≤ m) {b : List (List T)} {i : Int} (h : At b i) (x : T) :
    ∃ (a : BA) (i' : Int) (x' : T), KeyG a ∧ At b i' ∧ ∀ k, spec_l3Key m (.l b) (.i i) x k = k (.s a) (.l b) (.i i') x' := by
  obtain ⟨m, rfl⟩ : ∃ m', m = m' + 1 := ⟨m - 1, by omega⟩
  obtain ⟨a, i', x', ha, hi, hk⟩ := l1Str_ok (m := m) (by omega) h x keyL (by decide) (by decide)
  exact ⟨a, i', x', keyL_ok a ha, hi, fun k => by simp only [spec_l3Key, T.rows_l]; exact hk _⟩
theorem l3Val_ok {m : Nat} (hm : 4 ≤ m) {b : List (List T)} {i : Int} (h : At b i) (x : T) :
    ∃ (a : BA) (i' : Int) (x' : T), ValG a ∧ At b i' ∧ ∀ k, spec_l3Val m (.l b) (.i i) x k = k (.s a) (.l b) (.i i') x' := by
  obtain ⟨m, rfl⟩ : ∃ m', m = m' + 1 := ⟨m - 1, by omega⟩
  obtain ⟨a, i', x', ha, hi, hk⟩ := l1Str_ok (m := m) (by omega) h x valL (by decide) (by decide)
  exact ⟨a, i', x', valL_ok a ha, hi, fun k => by simp only [spec_l3Val, T.rows_l]; exact hk _⟩
theorem l3KeyAny_ok {m : Nat} (hm : 6 ≤ m) {b : List (List T)} {i : Int} (h : At b i) (x : T) :
    ∃ (a : BA) (i' : Int) (x' : T), KeyG a ∧ At b i' ∧ ∀ k, spec_l3KeyAny m (.l b) (.i i) x k = k (.s a) (.l b) (.i i') x' := by
  obtain ⟨m, rfl⟩ : ∃ m', m = m' + 2 := ⟨m - 2, by omega⟩
  obtain ⟨r, i', x', r1, r2, hi, hk⟩ := l1Below_ok (m := m) (by omega) h x (n := 6) (by omega) (by omega)
  by_cases h0 : r = 0
  · obtain ⟨a, i'', x'', ha, hi2, hk2⟩ := l1Str_ok (m := m + 1) (by omega) hi x' oddL (by decide) (by decide)
    refine ⟨a, i'', x'', oddL_ok a ha, hi2, fun k => ?_⟩
    simp only [spec_l3KeyAny, spec_l1Once, T.rows_l]
    rw [hk]
    simp only [T.int_i, T.bool_b, T.rows_l]
    rw [cond_t (by simp [h0])]
    exact hk2 _
  · obtain ⟨a, i'', x'', ha, hi2, hk2⟩ := l3Key_ok (m := m + 1) (by omega) hi x'
    refine ⟨a, i'', x'', ha, hi2, fun k => ?_⟩
    simp only [spec_l3KeyAny, spec_l1Once, T.rows_l]
    rw [hk]
    simp only [T.int_i, T.bool_b, T.rows_l]
    rw [cond_f (by simp [h0])]
    exact hk2 _
theorem l1New_loop (m : Nat) (b : List (List T)) (hb : b.length ≤ 1048576) : ∀ (j : Nat) (i : Int) (x : T) (n : Nat), 0 ≤ i → (b.length : Int) - i ≤ j → j < n → ∃ x', ∀ k, spec_l1New_L0_0 m n (.l b) x (.i i) k = k (.l b) x'
  | j, i, x, 0, h0, hj, hn => by omega
  | j, i, x, n + 1, h0, hj, hn => by
    by_cases h1 : i < b.length
    · by_cases h2 : i < 4000
      · match j, hj, hn with
        | 0, hj, hn => omega
        | j + 1, hj, hn =>
        obtain ⟨x', hx⟩ := l1New_loop m b hb j (i + 1) (bvBack .i64 (BitVec.ofInt IntKind.i64.bits (IntKind.i64.wrap ((IntKind.i64.wrap ((IntKind.i64.wrap (x.int * 137)) + (IntKind.i64.wrap ((b.getD (Int.toNat i) []).getD 0 dflt).int))) + 11)) &&& BitVec.ofInt IntKind.i64.bits 1073741823)) n (by omega) (by omega) (by omega)
        refine ⟨x', fun k => ?_⟩
        simp only [spec_l1New_L0_0, T.int_i, T.rows_l]
        rw [cond_t (by simp [h1]), dec_t h2, dec_t ⟨h0, h1⟩, wrap_i64 (x := i + 1) (by omega) (by omega)]
        exact hx k
      · refine ⟨x, fun k => ?_⟩
        simp only [spec_l1New_L0_0, T.int_i, T.rows_l]
        rw [cond_t (by simp [h1]), dec_f h2]
    · refine ⟨x, fun k => ?_⟩
      simp only [spec_l1New_L0_0, T.int_i, T.rows_l]
      rw [cond_f (by simp; omega)]
theorem l1New_ok {m : Nat} {b : List (List T)} (hb : b.length ≤ 1048576) (hm : b.length + 2 ≤ m) : ∃ x, ∀ k, spec_l1New m (.l b) k = k (.l b) (.i 0) x := by
  obtain ⟨m, rfl⟩ : ∃ m', m = m' + 1 := ⟨m - 1, by omega⟩
  obtain ⟨x, hx⟩ := l1New_loop m b hb b.length 0 (T.i (IntKind.i64.wrap (381381 + (b.length : Int)))) m (by omega) (by omega) (by omega)
  refine ⟨x, fun k => ?_⟩
  simp only [spec_l1New, T.rows_l]
  exact hx _
end Go.Proofs.Ytkocbeamfmfgiaa

namespace Go.Proofs.Ytkocbeamfmfgiaa
open Go Go.E Go.Proofs
def PairG (p : BA × BA) : Prop := KeyG p.1 ∧ ValG p.2
theorem putKey_loop0 (m : Nat) (l : T) (key val : BA) : ∀ (post pre : List (BA × BA)), pre.length + post.length ≤ 1000 → ∀ n, post.length < n →
    (∀ k0 k1, spec_PutKey_L0_0 m n l (.s key) (.s val) (.i pre.length) (.l ((pre ++ post).map rP)) k0 k1 = k1 l (.s key) (.s val)) ∨
    (∃ a x r, pre ++ post = a ++ x :: r ∧ ∀ k0 k1, spec_PutKey_L0_0 m n l (.s key) (.s val) (.i pre.length) (.l ((pre ++ post).map rP)) k0 k1 = k0 (.l ((a ++ (x.1, val) :: r).map rP)))
  | [], pre, hs, n, hn => by
    obtain ⟨n, rfl⟩ : ∃ m', n = m' + 1 := ⟨n - 1, by omega⟩
    refine .inl fun k0 k1 => ?_
    simp only [spec_PutKey_L0_0, T.int_i, T.rows_l]
    rw [dec_f (by simp)]
  | x :: post, pre, hs, n, hn => by
    obtain ⟨n, rfl⟩ : ∃ m', n = m' + 1 := ⟨n - 1, by omega⟩
    simp only [List.length_cons] at hs hn
    by_cases hx : x.1 = key
    · refine .inr ⟨pre, x, post, rfl, fun k0 k1 => ?_⟩
      simp only [spec_PutKey_L0_0, T.int_i, T.rows_l, ix_get]
      rw [dec_t (by simp; omega), dec_t (by simp; omega), dec_t (by simp)]
      simp only [rP, List.getD_cons_zero, T.str_s]
      rw [cond_t (by simp [hx]), dec_t (by simp; omega), dec_t (by simp)]
      congr 2
      simp [rP, List.set_append]
    · have ih := putKey_loop0 m l key val post (pre ++ [x]) (by simp; omega) n (by omega)
      rw [List.append_assoc] at ih
      have e : ∀ k0 k1, spec_PutKey_L0_0 m (n + 1) l (.s key) (.s val) (.i pre.length) (.l ((pre ++ x :: post).map rP)) k0 k1 = spec_PutKey_L0_0 m n l (.s key) (.s val) (.i (pre ++ [x]).length) (.l ((pre ++ x :: post).map rP)) k0 k1 := fun k0 k1 => by
        rw [spec_PutKey_L0_0]
        simp only [T.int_i, T.rows_l, ix_get, ix_next pre x (by omega)]
        rw [dec_t (by simp; omega), dec_t (by simp; omega), dec_t (by simp)]
        simp only [rP, List.getD_cons_zero, T.str_s]
        rw [cond_f (by
          cases h : (x.1.toList == key.toList) with
          | false => rfl
          | true => exact absurd (ba_ext (by simpa [ByteArray.toList_eq] using h)) hx)]
      rcases ih with ih | ⟨a, y, r, h1, h2⟩
      · exact .inl fun k0 k1 => (e k0 k1).trans (ih k0 k1)
      · exact .inr ⟨a, y, r, h1, fun k0 k1 => (e k0 k1).trans (h2 k0 k1)⟩
theorem putKey_loop1 (m : Nat) (ps : List (BA × BA)) (hs : ps.length ≤ 1000) (key val : BA) : ∀ (j i : Nat) (n : Nat), ps.length - i ≤ j → i ≤ ps.length → j < n →
    ∃ c : Nat, c ≤ ps.length ∧ ∀ k0, spec_PutKey_L1_0 m n (.l (ps.map rP)) (.s key) (.s val) (.i i) k0 = k0 (.l (ps.map rP)) (.s key) (.s val) (.i c)
  | j, i, 0, h1, h2, hn => by omega
  | j, i, n + 1, h1, h2, hn => by
    by_cases hi : i < ps.length
    · match j, h1, hn with
      | 0, h1, hn => omega
      | j + 1, h1, hn =>
      obtain ⟨c, hc, hk⟩ := putKey_loop1 m ps hs key val j (i + 1) n (by omega) (by omega) (by omega)
      cases hb : ((Op.bytesLess (((ps.map rP).getD (Int.toNat (i : Int)) []).getD 0 dflt).str.toList key.toList) || ((((ps.map rP).getD (Int.toNat (i : Int)) []).getD 0 dflt).str.toList == key.toList)) with
      | true =>
        refine ⟨c, hc, fun k0 => ?_⟩
        simp only [spec_PutKey_L1_0, T.int_i, T.rows_l, List.length_map, T.str_s]
        rw [cond_t (by simp; omega), dec_t (by omega), hb, cond_true, wrap_i64 (by omega) (by omega)]
        exact hk k0
      | false =>
        refine ⟨i, by omega, fun k0 => ?_⟩
        simp only [spec_PutKey_L1_0, T.int_i, T.rows_l, List.length_map, T.str_s]
        rw [cond_t (by simp; omega), dec_t (by omega), hb, cond_false]
    · refine ⟨i, by omega, fun k0 => ?_⟩
      simp only [spec_PutKey_L1_0, T.int_i, T.rows_l, List.length_map]
      rw [cond_f (by simp; omega)]
theorem putKey_ok {m : Nat} (ps : List (BA × BA)) (hs : ps.length ≤ 1000) (hm : 1002 ≤ m) (hg : ∀ p ∈ ps, PairG p) {key val : BA} (hk : KeyG key) (hv : ValG val) :
    ∃ qs : List (BA × BA), qs.length ≤ ps.length + 1 ∧ (∀ p ∈ qs, PairG p) ∧
      ((∀ k0 k1, spec_PutKey m (.l (ps.map rP)) (.s key) (.s val) k0 k1 = k0 (.l (qs.map rP))) ∨ (∀ k0 k1, spec_PutKey m (.l (ps.map rP)) (.s key) (.s val) k0 k1 = k1 (.l (qs.map rP)))) := by
  obtain ⟨m, rfl⟩ : ∃ m', m = m' + 1 := ⟨m - 1, by omega⟩
  rcases putKey_loop0 m (.l (ps.map rP)) key val ps [] (by simp; omega) m (by omega) with h | ⟨a, x, r, h1, h2⟩
  · obtain ⟨c, hc, h2⟩ := putKey_loop1 m ps hs key val ps.length 0 m (by omega) (by omega) (by omega)
    refine ⟨ps.take c ++ (key, val) :: ps.drop c, by simp; omega, fun p hp => ?_, .inr fun k0 k1 => ?_⟩
    · simp only [List.mem_append, List.mem_cons] at hp
      rcases hp with hp | rfl | hp
      · exact hg p (List.mem_of_mem_take hp)
      · exact ⟨hk, hv⟩
      · exact hg p (List.mem_of_mem_drop hp)
    · simp only [spec_PutKey, T.rows_l, List.length_map]
      rw [dec_t (by unfold maxRow; omega)]
      refine (h _ _).trans ?_
      refine (h2 _).trans ?_
      simp only [T.rows_l, T.int_i, List.length_map]
      have e1 : Int.toNat (c : Int) = c := rfl
      have e2 : Int.toNat (ps.length : Int) = ps.length := rfl
      rw [dec_t (by omega), dec_t (by omega), dec_t (by simp [maxRow]; omega), dec_t (by simp [maxRow]; omega), dec_t (by omega), dec_t (by omega), dec_t (by simp [maxRow]; omega)]
      congr 2
      simp [e1, e2, rP, List.map_take, List.map_drop]
      rw [List.take_of_length_le (by simp)]
  · have hps : ps = a ++ x :: r := h1
    refine ⟨a ++ (x.1, val) :: r, by rw [hps]; simp, fun p hp => ?_, .inl fun k0 k1 => ?_⟩
    · simp only [List.mem_append, List.mem_cons] at hp
      rcases hp with hp | rfl | hp
      · exact hg p (by rw [hps]; simp [hp])
      · exact ⟨(hg x (by rw [hps]; simp)).1, hv⟩
      · exact hg p (by rw [hps]; simp [hp])
    · simp only [spec_PutKey, T.rows_l, List.length_map]
      rw [dec_t (by unfold maxRow; omega)]
      exact h2 _ _
end Go.Proofs.Ytkocbeamfmfgiaa

namespace Go.Proofs.Ytkocbeamfmfgiaa
open Go Go.E Go.Proofs
theorem l3Draw_loop {m : Nat} (hm : 1002 ≤ m) {b : List (List T)} : ∀ (j : Nat) (ps : List (BA × BA)) (x0 : T) (i : Int) (x : T) (n : Nat), At b i → ps.length + j ≤ 100 → (∀ p ∈ ps, PairG p) → j < n →
    ∃ (qs : List (BA × BA)) (x0' : T) (i' : Int) (x' : T), qs.length ≤ ps.length + j ∧ (∀ p ∈ qs, PairG p) ∧ At b i' ∧
      ∀ k0, spec_l3Draw_L0_0 m n x0 (.i j) (.l b) (.i i) x (.l (ps.map rP)) k0 = k0 x0' (.l b) (.i i') x' (.l (qs.map rP))
  | j, ps, x0, i, x, 0, hi, hs, hg, hn => by omega
  | 0, ps, x0, i, x, n + 1, hi, hs, hg, hn => by
    refine ⟨ps, T.i (x0.int.toNat : Int), i, x, by omega, hg, hi, fun k0 => ?_⟩
    simp only [spec_l3Draw_L0_0, T.int_i, T.rows_l]
    rw [dec_f (by simp)]
  | j + 1, ps, x0, i, x, n + 1, hi, hs, hg, hn => by
    obtain ⟨key, i1, x1, hkey, hi1, h1⟩ := l3Key_ok (m := m) (by omega) hi x
    obtain ⟨val, i2, x2, hval, hi2, h2⟩ := l3Val_ok (m := m) (by omega) hi1 x1
    obtain ⟨qs, hq1, hq2, hq3⟩ := putKey_ok (m := m) ps (by omega) (by omega) hg hkey hval
    obtain ⟨rs, x0', i3, x3, hr1, hr2, hi3, h3⟩ := l3Draw_loop hm j qs (T.i (x0.int.toNat : Int)) i2 x2 n hi2 (by omega) hq2 (by omega)
    refine ⟨rs, x0', i3, x3, by omega, hr2, hi3, fun k0 => ?_⟩
    simp only [spec_l3Draw_L0_0, T.int_i, T.rows_l]
    rw [dec_t (by omega), h1]
    simp only [T.rows_l]
    rw [h2]
    simp only [T.rows_l]
    have hw : IntKind.i64.wrap (((j + 1 : Nat) : Int) - 1) = (j : Int) := by rw [wrap_i64 (by omega) (by omega)]; omega
    rcases hq3 with hq3 | hq3
    · rw [hq3]
      simp only [T.rows_l, hw]
      exact h3 k0
    · rw [hq3]
      simp only [T.rows_l, hw]
      exact h3 k0
theorem l3Draw_ok {m : Nat} (hm : 1010 ≤ m) {b : List (List T)} {i : Int} (h : At b i) (x : T) :
    ∃ (qs : List (BA × BA)) (i' : Int) (x' : T), qs.length ≤ 8 ∧ (∀ p ∈ qs, PairG p) ∧ At b i' ∧ ∀ k, spec_l3Draw m (.l b) (.i i) x k = k (.l (qs.map rP)) (.l b) (.i i') x' := by
  obtain ⟨m, rfl⟩ : ∃ m', m = m' + 1 := ⟨m - 1, by omega⟩
  obtain ⟨r, i1, x1, r1, r2, hi1, h1⟩ := l1Below_ok (m := m) (by omega) h x (n := 8) (by omega) (by omega)
  obtain ⟨j, rfl⟩ : ∃ j : Nat, r = j := ⟨r.toNat, by omega⟩
  obtain ⟨qs, x0', i2, x2, hq1, hq2, hi2, h2⟩ := l3Draw_loop (m := m) (by omega) j [] (T.i 0) i1 x1 m hi1 (by simp; omega) (fun p hp => by simp at hp) (by omega)
  refine ⟨qs, i2, x2, by simp at hq1; omega, hq2, hi2, fun k => ?_⟩
  simp only [spec_l3Draw, T.rows_l]
  rw [h1]
  simp only [T.rows_l]
  refine (h2 _).trans ?_
  simp only [T.rows_l]
theorem zeros_ok (r : Int) (h1 : 0 ≤ r) (h2 : r < 2) : ∃ v : BA, ValG v ∧ T.s (rowsBytes (List.replicate (Int.toNat (IntKind.i64.wrap (20 + r))) [(T.i 0)])) = .s v := by
  refine ⟨_, ?_, rfl⟩
  have : r = 0 ∨ r = 1 := by omega
  rcases this with rfl | rfl <;> (unfold ValG; decide)
theorem l3Any_ok {m : Nat} (hm : 1020 ≤ m) {b : List (List T)} {i : Int} (h : At b i) (x : T) :
    ∃ (qs : List (BA × BA)) (i' : Int) (x' : T), qs.length ≤ 9 ∧ (∀ p ∈ qs, PairG p) ∧
      ((∀ k0 k1, spec_l3Any m (.l b) (.i i) x k0 k1 = k0 (.l (qs.map rP)) (.l b) (.i i') x') ∨ (∀ k0 k1, spec_l3Any m (.l b) (.i i) x k0 k1 = k1 (.l (qs.map rP)) (.l b) (.i i') x')) := by
  obtain ⟨m, rfl⟩ : ∃ m', m = m' + 1 := ⟨m - 1, by omega⟩
  obtain ⟨ps, i1, x1, hp1, hp2, hi1, h1⟩ := l3Draw_ok (m := m) (by omega) h x
  obtain ⟨r, i2, x2, r1, r2, hi2, h2⟩ := l1Below_ok (m := m) (by omega) hi1 x1 (n := 8) (by omega) (by omega)
  by_cases hr0 : r = 0
  · obtain ⟨key, i3, x3, hkey, hi3, h3⟩ := l3KeyAny_ok (m := m) (by omega) hi2 x2
    obtain ⟨val, i4, x4, hval, hi4, h4⟩ := l3Val_ok (m := m) (by omega) hi3 x3
    refine ⟨ps ++ [(key, val)], i4, x4, by simp; omega, fun p hp => ?_, .inl fun k0 k1 => ?_⟩
    · rcases List.mem_append.1 hp with hp | hp
      · exact hp2 p hp
      · simp only [List.mem_cons, List.not_mem_nil, or_false] at hp
        subst hp; exact ⟨hkey, hval⟩
    · simp only [spec_l3Any, T.rows_l]
      rw [h1]
      simp only [T.rows_l]
      rw [h2]
      simp only [T.rows_l, T.int_i]
      rw [cond_t (by simp [hr0]), h3]
      simp only [T.rows_l]
      rw [h4]
      simp only [T.rows_l, List.length_map]
      rw [dec_t (by unfold maxRow; omega)]
      simp [rP]
  · by_cases hr1 : r = 1
    · match ps, hp1, hp2, h1 with
      | [], hp1, hp2, h1 =>
        refine ⟨[], i2, x2, by simp, hp2, .inr fun k0 k1 => ?_⟩
        simp only [spec_l3Any, T.rows_l]
        rw [h1]
        simp only [T.rows_l]
        rw [h2]
        simp only [T.rows_l, T.int_i]
        rw [cond_f (by simp [hr0]), cond_t (by simp [hr1]), dec_f (by simp)]
      | p :: ps, hp1, hp2, h1 =>
        obtain ⟨z, i3, x3, z1, z2, hi3, h3⟩ := l1Below_ok (m := m) (by omega) hi2 x2 (n := 2) (by omega) (by omega)
        obtain ⟨v, hv, hz⟩ := zeros_ok z z1 z2
        refine ⟨(p.1, v) :: ps, i3, x3, by simp at hp1 ⊢; omega, fun q hq => ?_, .inr fun k0 k1 => ?_⟩
        · rcases List.mem_cons.1 hq with rfl | hq
          · exact ⟨(hp2 p (by simp)).1, hv⟩
          · exact hp2 q (by simp [hq])
        · simp only [spec_l3Any, T.rows_l]
          rw [h1]
          simp only [T.rows_l]
          rw [h2]
          simp only [T.rows_l, T.int_i]
          rw [cond_f (by simp [hr0]), cond_t (by simp [hr1]), dec_t (by simp), h3]
          simp only [T.rows_l, T.int_i]
          rw [hz]
          have hw : IntKind.i64.wrap (20 + z) = 20 + z := wrap_i64 (by omega) (by omega)
          rw [hw, dec_t (by omega), dec_t (by unfold maxCells; omega), dec_t (by simp), dec_t (by simp)]
          simp [rP]
    · refine ⟨ps, i2, x2, by omega, hp2, .inr fun k0 k1 => ?_⟩
      simp only [spec_l3Any, T.rows_l]
      rw [h1]
      simp only [T.rows_l]
      rw [h2]
      simp only [T.rows_l, T.int_i]
      rw [cond_f (by simp [hr0]), cond_f (by simp [hr1])]
theorem draw_ok {m : Nat} {b : List (List T)} (hb : b.length ≤ 1048576) (hm : b.length + 2000 ≤ m) :
    ∃ qs : List (BA × BA), qs.length ≤ 9 ∧ (∀ p ∈ qs, PairG p) ∧ ∀ k, spec_DrawPairsText m (.l b) k = k (.l (qs.map rP)) := by
  obtain ⟨m, rfl⟩ : ∃ m', m = m' + 1 := ⟨m - 1, by omega⟩
  obtain ⟨x, h1⟩ := l1New_ok (m := m) hb (by omega)
  obtain ⟨qs, i', x', hq1, hq2, h2⟩ := l3Any_ok (m := m) (by omega) (b := b) (i := 0) ⟨by omega, by omega, hb⟩ x
  refine ⟨qs, hq1, hq2, fun k => ?_⟩
  simp only [spec_DrawPairsText, T.rows_l]
  rw [h1]
  simp only [T.rows_l]
  rcases h2 with h2 | h2
  · rw [h2, T.rows_l]
  · rw [h2, T.rows_l]
end Go.Proofs.Ytkocbeamfmfgiaa

namespace Go.Proofs.Ytkocbeamfmfgiaa
open Go Go.E Go.Proofs
def cnt (l : List UInt8) : Nat := l.count 32
theorem cnt_app (a b : List UInt8) : cnt (a ++ b) = cnt a + cnt b := by simp [cnt]
theorem cnt_cons (c : UInt8) (l : List UInt8) : cnt (c :: l) = (if c = 32 then 1 else 0) + cnt l := by
  unfold cnt
  rw [List.count_cons]
  by_cases h : c = 32 <;> simp [h] <;> omega
theorem is32 (c : UInt8) : ((c.toNat : Int) == 32) = decide (c = 32) := by
  by_cases h : c = 32
  · subst h; rfl
  · rw [decide_eq_false h]
    have : c.toNat ≠ 32 := fun e => h (by rw [← UInt8.toNat_inj]; exact e)
    simpa using by omega
theorem ch_get (pre post : List UInt8) (c : UInt8) : ((pre ++ c :: post).getD (Int.toNat (pre.length : Int)) 0) = c := by
  rw [show Int.toNat (pre.length : Int) = pre.length from rfl, List.getD_eq_getElem?_getD, List.getElem?_append_right (Nat.le_refl _)]
  simp
theorem loop0 (m : Nat) (rows : List (List T)) (s : BA) (hs : s.size ≤ 1048576) : ∀ (post pre : List UInt8), s.data.toList = pre ++ post → ∀ (n : Nat), post.length < n →
    ∀ k0, laws_FnPairsTexts_L0_0 m n (.s s) (.i (cnt pre)) (.i pre.length) (.l rows) k0 = k0 (.s s) (.i (cnt (pre ++ post))) (.l rows)
  | post, pre, he, 0, hn, k0 => by omega
  | [], pre, he, n + 1, hn, k0 => by
    have hsz : s.size = pre.length := by rw [ba_size, he]; simp
    simp only [laws_FnPairsTexts_L0_0, T.int_i, T.rows_l, T.str_s]
    rw [dec_f (by omega)]
    simp
  | c :: post, pre, he, n + 1, hn, k0 => by
    have hsz : s.size = pre.length + post.length + 1 := by rw [ba_size, he]; simp; omega
    have hc := List.count_le_length (a := (32 : UInt8)) (l := pre)
    have hc : cnt pre ≤ pre.length := hc
    have ih := loop0 m rows s hs post (pre ++ [c]) (by rw [he]; simp) n (by simp at hn; omega) k0
    simp only [List.append_assoc, List.cons_append, List.nil_append] at ih
    simp only [laws_FnPairsTexts_L0_0, T.int_i, T.rows_l, T.str_s, he, ch_get]
    rw [dec_t (by omega), dec_t (by omega), is32, wrap_i64 (x := (pre.length : Int) + 1) (by omega) (by omega)]
    rw [cnt_app, cnt_cons] at ih
    have e0 : cnt ([] : List UInt8) = 0 := rfl
    by_cases h : c = 32
    · rw [dec_t h, wrap_i64 (x := (cnt pre : Int) + 1) (by omega) (by omega)]
      rw [if_pos h] at ih
      refine Eq.trans ?_ ih
      congr 2 <;> simp [e0]
    · rw [dec_f h]
      rw [if_neg h] at ih
      refine Eq.trans ?_ ih
      congr 2 <;> simp [e0]
theorem loop2 (m : Nat) (s : T) (aa bs : List (BA × BA)) (p : BA × BA) (hl : aa.length ≤ 1000) (hp : p.1.size ≤ 1000) : ∀ (post pre : List UInt8), p.1.data.toList = pre ++ post → ∀ (n : Nat) (z : Int), post.length < n → -1000000 ≤ z - post.length → z ≤ 2000000 →
    ∀ k0, laws_FnPairsTexts_L2_0 m n s (.i z) (.i aa.length) (.i pre.length) (.l ((aa ++ p :: bs).map rP)) k0 = k0 s (.i (z - cnt post)) (.i aa.length) (.l ((aa ++ p :: bs).map rP))
  | post, pre, he, 0, z, hn, h1, h2, k0 => by omega
  | [], pre, he, n + 1, z, hn, h1, h2, k0 => by
    have hsz : p.1.size = pre.length := by rw [ba_size, he]; simp
    simp only [laws_FnPairsTexts_L2_0, T.int_i, T.rows_l, ix_get]
    rw [dec_t (by simp; omega), dec_t (by simp)]
    simp only [rP, List.getD_cons_zero, T.str_s]
    rw [dec_f (by omega)]
    simp [cnt]
  | c :: post, pre, he, n + 1, z, hn, h1, h2, k0 => by
    have hsz : p.1.size = pre.length + post.length + 1 := by rw [ba_size, he]; simp; omega
    simp only [List.length_cons] at h1 hn
    simp only [laws_FnPairsTexts_L2_0, T.int_i, T.rows_l, ix_get]
    rw [dec_t (by simp; omega), dec_t (by simp)]
    have e : rP p = [.s p.1, .s p.2] := rfl
    simp only [e, List.getD_cons_zero, T.str_s, he, ch_get]
    rw [dec_t (by omega), dec_t (by simp; omega), dec_t (by simp), dec_t (by omega), is32, wrap_i64 (x := (pre.length : Int) + 1) (by omega) (by omega), cnt_cons]
    by_cases h : c = 32
    · rw [dec_t h, wrap_i64 (x := z - 1) (by omega) (by omega), if_pos h]
      have ih := loop2 m s aa bs p hl hp post (pre ++ [c]) (by rw [he]; simp) n (z - 1) (by omega) (by omega) (by omega) k0
      refine Eq.trans ?_ (ih.trans ?_)
      · congr 2; simp
      · congr 2; omega
    · rw [dec_f h, if_neg h]
      have ih := loop2 m s aa bs p hl hp post (pre ++ [c]) (by rw [he]; simp) n z (by omega) (by omega) (by omega) k0
      refine Eq.trans ?_ (ih.trans ?_)
      · congr 2; simp
      · congr 2; omega
def keyCnt (ps : List (BA × BA)) : Nat := (ps.map fun p => cnt p.1.data.toList).sum
theorem loop1 (m : Nat) (s : T) : ∀ (post pre : List (BA × BA)), pre.length + post.length ≤ 20 → (∀ p ∈ post, p.1.size ≤ 32) → ∀ (n : Nat) (z : Int), post.length + 100 < n → -100000 ≤ z - 32 * post.length → z ≤ 2000000 →
    ∀ k0, laws_FnPairsTexts_L1_0 m n s (.i z) (.i pre.length) (.l ((pre ++ post).map rP)) k0 = k0 s (.i (z - keyCnt post)) (.l ((pre ++ post).map rP))
  | post, pre, hs, hg, 0, z, hn, h1, h2, k0 => by omega
  | [], pre, hs, hg, n + 1, z, hn, h1, h2, k0 => by
    simp only [laws_FnPairsTexts_L1_0, T.int_i, T.rows_l]
    rw [dec_f (by simp)]
    simp [keyCnt]
  | p :: post, pre, hs, hg, n + 1, z, hn, h1, h2, k0 => by
    simp only [List.length_cons] at hs hn h1
    have hp := hg p (by simp)
    have hc : cnt p.1.data.toList ≤ p.1.data.toList.length := List.count_le_length
    have hsz : p.1.data.toList.length = p.1.size := (ba_size _).symm
    simp only [laws_FnPairsTexts_L1_0, T.int_i, T.rows_l]
    rw [dec_t (by simp; omega)]
    have l2 := loop2 m s pre post p (by omega) (by omega) p.1.data.toList [] rfl n z (by omega) (by omega) (by omega)
    refine (l2 _).trans ?_
    simp only [T.int_i, T.rows_l, ix_next pre p (by omega)]
    have ih := loop1 m s post (pre ++ [p]) (by simp; omega) (fun q hq => hg q (by simp [hq])) n (z - cnt p.1.data.toList) (by omega) (by omega) (by omega) k0
    simp only [List.append_assoc, List.cons_append, List.nil_append] at ih
    refine ih.trans ?_
    congr 2
    simp only [keyCnt, List.map_cons, List.sum_cons]
    omega
end Go.Proofs.Ytkocbeamfmfgiaa

namespace Go.Proofs.Ytkocbeamfmfgiaa
open Go Go.E Go.Proofs
theorem cnt0 {l : List UInt8} (h : (32 : UInt8) ∉ l) : cnt l = 0 := List.count_eq_zero.2 h
theorem cnt_acc : ∀ (ps : List (BA × BA)) (acc : BA) (i : Nat), (∀ p ∈ ps, PairG p) → cnt (specAcc acc i ps).data.toList = cnt acc.data.toList + keyCnt ps + (if i = 0 then ps.length - 1 else ps.length)
  | [], acc, i, h => by simp [specAcc, keyCnt]
  | p :: r, acc, i, h => by
    have hv := cnt0 (h p (by simp)).2.2
    have e1 : cnt eqW.data.toList = 0 := rfl
    have e2 : cnt spW.data.toList = 1 := rfl
    have e3 : keyCnt (p :: r) = cnt p.1.data.toList + keyCnt r := by simp [keyCnt]
    by_cases hi : i = 0
    · have ih := cnt_acc r (acc ++ p.1 ++ eqW ++ p.2) (i + 1) fun q hq => h q (by simp [hq])
      rw [if_neg (show ¬ (i + 1 = 0) from by omega)] at ih
      rw [specAcc, if_pos hi, ih, if_pos hi, ba_app, ba_app, ba_app, cnt_app, cnt_app, cnt_app, hv, e1, e3, List.length_cons]
      omega
    · have ih := cnt_acc r (acc ++ spW ++ p.1 ++ eqW ++ p.2) (i + 1) fun q hq => h q (by simp [hq])
      rw [if_neg (show ¬ (i + 1 = 0) from by omega)] at ih
      rw [specAcc, if_neg hi, ih, if_neg hi, ba_app, ba_app, ba_app, ba_app, cnt_app, cnt_app, cnt_app, cnt_app, hv, e1, e2, e3, List.length_cons]
      omega
theorem szPs_ok {ps : List (BA × BA)} (h1 : ps.length ≤ 9) (h : ∀ p ∈ ps, PairG p) : szPs ps ≤ 1000 := by
  have : ∀ (ps : List (BA × BA)), (∀ p ∈ ps, PairG p) → (ps.map szP).sum ≤ 64 * ps.length := by
    intro ps
    induction ps with
    | nil => intro _; simp
    | cons p r ih =>
      intro h
      have h1 := (h p (by simp)).1
      have h2 := (h p (by simp)).2.1
      have := ih fun q hq => h q (by simp [hq])
      unfold KeyG at h1
      simp only [List.map_cons, List.sum_cons, List.length_cons, szP]
      omega
  have := this ps h
  unfold szPs
  omega
theorem law_ok (b : List (List T)) (hb : b.length ≤ 1048576) (k : T → An) : laws_FnPairsTexts 1060000 (.l b) k = k (.b true) := by
  obtain ⟨ps, hp1, hp2, h1⟩ := draw_ok (m := 1059999) (b := b) hb (by omega)
  have hsz := szPs_ok hp1 hp2
  have hkey : ∀ p ∈ ps, p.1.size ≤ 32 := fun p hp => (hp2 p hp).1
  rw [laws_FnPairsTexts]
  simp only [laws_big, T.rows_l, T.bool_b]
  rw [dec_f (by omega), h1]
  simp only [T.rows_l]
  by_cases h0 : ps = []
  · subst h0
    have hn : ∀ k, impl_PairsText 1059999 (.l []) k = k (.s ⟨#[101, 109, 112, 116, 121]⟩) := fun k => by simp [impl_PairsText]
    have hn2 : ∀ k, spec_PairsText 1059999 (.l []) k = k (.s ⟨#[101, 109, 112, 116, 121]⟩) := fun k => by simp [spec_PairsText]
    simp only [List.map_nil]
    rw [hn]
    have l0 := loop0 1059999 [] ⟨#[101, 109, 112, 116, 121]⟩ (by decide) [101, 109, 112, 116, 121] [] rfl 1059999 (by simp)
    refine (l0 _).trans ?_
    simp only [T.rows_l]
    have l1 := loop1 1059999 (.s ⟨#[101, 109, 112, 116, 121]⟩) [] [] (by simp) (fun p hp => by simp at hp) 1059999 (cnt [101, 109, 112, 116, 121]) (by simp) (by decide) (by decide)
    refine (l1 _).trans ?_
    simp only [T.rows_l, List.nil_append, List.map_nil]
    rw [hn2]
    have hne : ((⟨#[101, 109, 112, 116, 121]⟩ : BA).toList == (⟨#[]⟩ : BA).toList) = false := by simp [ByteArray.toList_eq]
    simp only [T.str_s, beq_toList_self, hne]
    rfl
  · have hl : 0 < ps.length := List.length_pos_iff.2 h0
    rw [implPairsText_ok (m := 1059999) ps (by omega) h0 (by omega)]
    have hs := specAcc_size ps ⟨#[]⟩ 0
    have e : (⟨#[]⟩ : BA).size = 0 := rfl
    unfold szPs at hsz
    have l0 := loop0 1059999 (ps.map rP) (specAcc ⟨#[]⟩ 0 ps) (by omega) (specAcc ⟨#[]⟩ 0 ps).data.toList [] rfl 1059999 (by rw [← ba_size]; omega)
    refine (l0 _).trans ?_
    simp only [T.rows_l, List.nil_append]
    have hc := cnt_acc ps ⟨#[]⟩ 0 hp2
    rw [if_pos rfl] at hc
    have hc0 : cnt (⟨#[]⟩ : BA).data.toList = 0 := rfl
    rw [hc0] at hc
    have hcl : cnt (specAcc ⟨#[]⟩ 0 ps).data.toList ≤ (specAcc ⟨#[]⟩ 0 ps).data.toList.length := List.count_le_length
    rw [← ba_size] at hcl
    have l1 := loop1 1059999 (.s (specAcc ⟨#[]⟩ 0 ps)) ps [] (by simp; omega) hkey 1059999 (cnt (specAcc ⟨#[]⟩ 0 ps).data.toList) (by omega) (by omega) (by omega)
    refine (l1 _).trans ?_
    simp only [T.rows_l, List.nil_append]
    rw [specPairsText_ok (m := 1059999) ps (by unfold szPs; omega) h0 (by omega)]
    have hne : ((specAcc ⟨#[]⟩ 0 ps).toList == (⟨#[]⟩ : BA).toList) = false := by
      cases hb : ((specAcc ⟨#[]⟩ 0 ps).toList == (⟨#[]⟩ : BA).toList) with
      | false => rfl
      | true =>
        exfalso
        have hq : specAcc ⟨#[]⟩ 0 ps = ⟨#[]⟩ := ba_ext (by simpa [ByteArray.toList_eq] using hb)
        match ps, h0 with
        | p :: r, _ =>
          have := congrArg (fun x : BA => x.data.toList.length) hq
          simp only [specAcc] at this
          rw [specAcc_tail _ _ 1 (by omega)] at this
          simp [eqW] at this
    simp only [T.str_s, T.int_i, beq_toList_self, hne, List.length_map, Bool.not_false, beq_self_eq_true, cond_true]
    have hl0 : (((ps.length : Nat) : Int) == 0) = false := by simp [List.length_eq_zero_iff, h0]
    have hv : ((cnt (specAcc ⟨#[]⟩ 0 ps).data.toList : Int) - (keyCnt ps : Int) == IntKind.i64.wrap ((ps.length : Int) - 1)) = true := by
      rw [wrap_i64 (by omega) (by omega), hc]
      simp
      omega
    rw [hl0]
    simp only [hv, Bool.false_eq_true, beq_iff_eq]
    rw [show ((false == true) : Bool) = false from rfl, cond_false]
    rw [cond_t (by simpa using hl)]
end Go.Proofs.Ytkocbeamfmfgiaa

