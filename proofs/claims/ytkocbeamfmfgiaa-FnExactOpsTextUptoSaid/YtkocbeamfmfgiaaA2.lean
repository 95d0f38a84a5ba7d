/- A part of the proof: texts S1C, S1D, S1E: see the last part's opening words. -/
import Derived.Test.YtkocbeamfmfgiaaA1
set_option linter.unusedVariables false
set_option linter.unusedSimpArgs false
set_option linter.unnecessarySimpa false
namespace Go.Proofs.Ytkocbeamfmfgiaa
open Go Go.E Go.Proofs
/-- an order's key and value are short enough to be looked at -/
def opFit (o : DOp) : Prop := o.key.size ≤ 1048576 ∧ o.val.size ≤ 1048576
theorem prev_at {α : Type} (f : α → List T) (pre : List α) (p : α) (post : List α) (h : pre.length < 4611686018427387904) :
    (((pre ++ [p] ++ post).map f).getD (Int.toNat (IntKind.i64.wrap (((pre ++ [p]).length : Int) - 1))) []) = f p := by
  rw [wrap_i64 (by simp <;> omega) (by simp <;> omega)]
  have e : ((pre ++ [p]).length : Int) - 1 = (pre.length : Int) := by simp
  rw [e, show pre ++ [p] ++ post = pre ++ p :: post by simp, ix_get]
theorem specOps_loop (m : Nat) (hm : 1048581 ≤ m) : ∀ (post pre : List DOp) (p : DOp), (∀ o ∈ post, opFit o) → pre.length + post.length ≤ 1048576 →
    ∀ n, post.length < n → ∀ k0 k1, spec_OpsOk_L0_0 m n (.l ((pre ++ [p] ++ post).map rO)) (.i (pre ++ [p]).length) k0 k1 = cond (okFrom p.key post) (k1 (.l ((pre ++ [p] ++ post).map rO))) (k0 (.b false))
  | [], pre, p, hf, hs, n, hn, k0, k1 => by
    obtain ⟨n, rfl⟩ : ∃ m', n = m' + 1 := ⟨n - 1, by omega⟩
    simp only [spec_OpsOk_L0_0, T.int_i, T.rows_l]
    rw [dec_f (by simp)]
    rfl
  | x :: post, pre, p, hf, hs, n, hn, k0, k1 => by
    obtain ⟨n, rfl⟩ : ∃ m', n = m' + 1 := ⟨n - 1, by omega⟩
    simp only [List.length_cons] at hs hn
    obtain ⟨f1, f2⟩ := hf x (by simp)
    simp only [spec_OpsOk_L0_0, T.int_i, T.rows_l, ix_get, prev_at rO pre p (x :: post) (by omega), ix_next (pre ++ [p]) x (by simp <;> omega)]
    simp only [rO, List.getD_cons_zero, List.getD_cons_succ, List.drop_succ_cons, List.drop_zero, T.str_s]
    rw [dec_t (by simp <;> omega), dec_t (by simp <;> omega), specOp_ok x f1 hm]
    simp only [T.bool_b]
    have ih := specOps_loop m hm post (pre ++ [p]) x (fun o ho => hf o (by simp [ho])) (by simp <;> omega) n (by omega) k0 k1
    have e : pre ++ [p] ++ [x] ++ post = pre ++ [p] ++ x :: post := by simp
    rw [e] at ih
    have w : IntKind.i64.wrap (((pre ++ [p]).length : Int) - 1) = (pre.length : Int) := by rw [wrap_i64 (by simp <;> omega) (by simp <;> omega)]; simp
    simp only [okFrom]
    cases opOkP x with
    | false => rfl
    | true =>
      simp only [Bool.not_true, Bool.true_and]
      rw [cond_t (by rfl), cond_t (by simp <;> omega), w, dec_t (by simp <;> omega), dec_t (by simp <;> omega)]
      show cond (!blt p.key x.key) _ _ = _
      cases blt p.key x.key with
      | false => rfl
      | true => exact ih
theorem implOps_loop (m : Nat) (hm : 1048582 ≤ m) : ∀ (post pre : List DOp) (p : DOp), (∀ o ∈ post, opFit o) → pre.length + post.length ≤ 1048576 →
    ∀ n, post.length < n → ∀ k0 k1, impl_OpsOk_L0_0 m n (.l ((pre ++ [p] ++ post).map rO)) (.l ((pre ++ [p] ++ post).map rO)) (.i (pre ++ [p] ++ post).length) (.i (pre ++ [p]).length) k0 k1 = cond (okFrom p.key post) (k1 (.l ((pre ++ [p] ++ post).map rO))) (k0 (.b false))
  | [], pre, p, hf, hs, n, hn, k0, k1 => by
    obtain ⟨n, rfl⟩ : ∃ m', n = m' + 1 := ⟨n - 1, by omega⟩
    simp only [impl_OpsOk_L0_0, T.int_i, T.rows_l]
    rw [dec_f (by simp)]
    rfl
  | x :: post, pre, p, hf, hs, n, hn, k0, k1 => by
    obtain ⟨n, rfl⟩ : ∃ m', n = m' + 1 := ⟨n - 1, by omega⟩
    simp only [List.length_cons] at hs hn
    obtain ⟨f1, f2⟩ := hf x (by simp)
    simp only [impl_OpsOk_L0_0, T.int_i, T.rows_l, ix_get, prev_at rO pre p (x :: post) (by omega), ix_next (pre ++ [p]) x (by simp <;> omega)]
    simp only [rO, List.getD_cons_zero, List.getD_cons_succ, List.drop_succ_cons, List.drop_zero, T.str_s]
    rw [dec_t (by simp <;> omega), dec_t (by simp <;> omega), implOp_ok x f1 hm]
    simp only [T.bool_b]
    have ih := implOps_loop m hm post (pre ++ [p]) x (fun o ho => hf o (by simp [ho])) (by simp <;> omega) n (by omega) k0 k1
    have e : pre ++ [p] ++ [x] ++ post = pre ++ [p] ++ x :: post := by simp
    rw [e] at ih
    have w : IntKind.i64.wrap (((pre ++ [p]).length : Int) - 1) = (pre.length : Int) := by rw [wrap_i64 (by simp <;> omega) (by simp <;> omega)]; simp
    simp only [okFrom]
    cases opOkP x with
    | false => rfl
    | true =>
      simp only [Bool.not_true, Bool.true_and]
      rw [cond_t (by rfl), cond_t (by simp <;> omega), w, dec_t (by simp <;> omega)]
      have hb : (Op.bytesLess x.key.toList p.key.toList || (x.key.toList == p.key.toList)) = !blt p.key x.key := by unfold blt; rw [blt_tot p.key.toList]; simp
      rw [hb]
      cases blt p.key x.key with
      | false => rfl
      | true => exact ih
theorem dec8 (n : Nat) : (decide ((1 : Int) ≤ ((n + 1 : Nat) : Int)) && decide (((n + 1 : Nat) : Int) ≤ 8)) = decide (n ≤ 7) := by
  rw [decide_eq_true (by omega : (1 : Int) ≤ ((n + 1 : Nat) : Int)), Bool.true_and]
  exact decide_eq_decide.2 (by omega)
theorem specOpsOk_ok {m : Nat} (os : List DOp) (hf : ∀ o ∈ os, opFit o) (hs : os.length ≤ 1048576) (hm : 1048585 ≤ m) (k : T → An) : spec_OpsOk m (.l (os.map rO)) k = k (.b (opsOkP os)) := by
  obtain ⟨m, rfl⟩ : ∃ m', m = m' + 1 := ⟨m - 1, by omega⟩
  match os, hf, hs with
  | [], _, _ =>
    simp only [spec_OpsOk, T.rows_l]
    obtain ⟨m, rfl⟩ : ∃ m', m = m' + 1 := ⟨m - 1, by omega⟩
    simp only [spec_OpsOk_L0_0, T.int_i, T.rows_l]
    rw [dec_f (by simp)]
    rw [l1In_ok (by omega)]
    rfl
  | o :: r, hf, hs =>
    simp only [List.length_cons] at hs
    obtain ⟨f1, f2⟩ := hf o (by simp)
    simp only [spec_OpsOk, T.rows_l]
    obtain ⟨m1, hm1⟩ : ∃ m', m = m' + 1 := ⟨m - 1, by omega⟩
    have step : ∀ k0 k1, spec_OpsOk_L0_0 m m (.l ((o :: r).map rO)) (.i 0) k0 k1 = cond (opOkP o) (cond (okFrom o.key r) (k1 (.l ((o :: r).map rO))) (k0 (.b false))) (k0 (.b false)) := by
      intro k0 k1
      have ih := specOps_loop m (by omega) r [] o (fun x hx => hf x (by simp [hx])) (by simp <;> omega) m1 (by omega) k0 k1
      have w : IntKind.i64.wrap ((0 : Int) + 1) = (([] ++ [o] : List DOp).length : Int) := by rw [wrap_i64 (by omega) (by omega)]; rfl
      have e0 : ((o :: r).map rO).getD (Int.toNat 0) [] = rO o := rfl
      rw [show spec_OpsOk_L0_0 m m = spec_OpsOk_L0_0 m (m1 + 1) by rw [← hm1]]
      simp only [spec_OpsOk_L0_0, T.int_i, T.rows_l, e0, w]
      simp only [rO, List.getD_cons_zero, List.getD_cons_succ, T.str_s]
      rw [dec_t (by simp <;> omega), dec_t (by simp <;> omega), specOp_ok o f1 (by omega), T.bool_b]
      cases opOkP o with
      | false => rfl
      | true =>
        rw [cond_t (by rfl), cond_f (by rfl), cond_true]
        exact ih
    refine (step _ _).trans ?_
    simp only [T.rows_l, List.length_map, List.length_cons]
    rw [l1In_ok (by omega), dec8]
    simp only [opsOkP]
    cases opOkP o <;> cases okFrom o.key r <;> rfl
theorem implOpsOk_ok {m : Nat} (os : List DOp) (hf : ∀ o ∈ os, opFit o) (hs : os.length ≤ 1048576) (hm : 1048585 ≤ m) (k : T → An) : impl_OpsOk m (.l (os.map rO)) k = k (.b (opsOkP os)) := by
  obtain ⟨m, rfl⟩ : ∃ m', m = m' + 1 := ⟨m - 1, by omega⟩
  match os, hf, hs with
  | [], _, _ =>
    simp only [impl_OpsOk, T.rows_l]
    obtain ⟨m, rfl⟩ : ∃ m', m = m' + 1 := ⟨m - 1, by omega⟩
    simp only [impl_OpsOk_L0_0, T.int_i, T.rows_l]
    rw [dec_f (by simp)]
    rw [inRange_ok (by omega)]
    rfl
  | o :: r, hf, hs =>
    simp only [List.length_cons] at hs
    obtain ⟨f1, f2⟩ := hf o (by simp)
    simp only [impl_OpsOk, T.rows_l]
    obtain ⟨m1, hm1⟩ : ∃ m', m = m' + 1 := ⟨m - 1, by omega⟩
    have step : ∀ k0 k1, impl_OpsOk_L0_0 m m (.l ((o :: r).map rO)) (.l ((o :: r).map rO)) (.i (((o :: r).map rO).length : Int)) (.i 0) k0 k1 = cond (opOkP o) (cond (okFrom o.key r) (k1 (.l ((o :: r).map rO))) (k0 (.b false))) (k0 (.b false)) := by
      intro k0 k1
      have ih := implOps_loop m (by omega) r [] o (fun x hx => hf x (by simp [hx])) (by simp <;> omega) m1 (by omega) k0 k1
      have w : IntKind.i64.wrap ((0 : Int) + 1) = (([] ++ [o] : List DOp).length : Int) := by rw [wrap_i64 (by omega) (by omega)]; rfl
      have e0 : ((o :: r).map rO).getD (Int.toNat 0) [] = rO o := rfl
      rw [show impl_OpsOk_L0_0 m m = impl_OpsOk_L0_0 m (m1 + 1) by rw [← hm1]]
      simp only [impl_OpsOk_L0_0, T.int_i, T.rows_l, e0, w, List.length_map]
      simp only [rO, List.getD_cons_zero, List.getD_cons_succ, T.str_s]
      rw [dec_t (by simp <;> omega), dec_t (by simp <;> omega), implOp_ok o f1 (by omega), T.bool_b]
      cases opOkP o with
      | false => rfl
      | true =>
        rw [cond_t (by rfl), cond_f (by rfl), cond_true]
        exact ih
    refine (step _ _).trans ?_
    simp only [T.rows_l, List.length_map, List.length_cons]
    rw [inRange_ok (by omega), dec8]
    simp only [opsOkP]
    cases opOkP o <;> cases okFrom o.key r <;> rfl
end Go.Proofs.Ytkocbeamfmfgiaa

namespace Go.Proofs.Ytkocbeamfmfgiaa
open Go Go.E Go.Proofs
theorem ba_assoc (a b c : BA) : a ++ b ++ c = a ++ (b ++ c) := ba_ext (by simp)
def quW : BA := ⟨#[63]⟩
def miW : BA := ⟨#[45]⟩
def wordO (o : DOp) : BA := if o.kind = 1 then o.key ++ eqW ++ o.val else if o.kind = 2 then miW ++ o.key else o.key ++ quW ++ o.val
def accW (acc : BA) (i : Nat) : List BA → BA
  | [] => acc
  | w :: r => accW ((if i = 0 then acc else acc ++ spW) ++ w) (i + 1) r
theorem accW_tail : ∀ (r : List BA) (acc : BA) (i : Nat), 0 < i → (accW acc i r).data.toList = acc.data.toList ++ Lib.joinTail spW.data.toList (r.map (·.data.toList))
  | [], acc, i, h => by simp [accW, Lib.joinTail]
  | p :: r, acc, i, h => by
    rw [accW, accW_tail r _ (i + 1) (by omega), if_neg (by omega)]
    simp [Lib.joinTail]
theorem accW_join (w : BA) (r : List BA) : joinB ((w :: r).map fun x => [T.s x]) (.s spW) = accW emp 0 (w :: r) := by
  apply ba_ext
  rw [joinB_cons, accW, accW_tail _ _ 1 (by omega), if_pos rfl]
  simp [emp]
theorem implOpsText_loop (m : Nat) (hm : 1048580 ≤ m) : ∀ (post pre : List DOp), (∀ o ∈ post, opFit o) → pre.length + post.length ≤ 1048576 →
    ∀ n, post.length < n → ∀ k0 k1, impl_OpsText_L0_0 m n (.l ((pre ++ post).map rO)) (.i (pre ++ post).length) (.i pre.length) (.l (pre.map fun o => [T.s (wordO o)])) k0 k1 =
      cond (post.all fun o => plain o.val) (k1 (.l ((pre ++ post).map fun o => [T.s (wordO o)]))) (k0 (.s emp))
  | [], pre, hf, hs, n, hn, k0, k1 => by
    obtain ⟨n, rfl⟩ : ∃ m', n = m' + 1 := ⟨n - 1, by omega⟩
    simp only [impl_OpsText_L0_0, T.int_i, T.rows_l]
    rw [dec_f (by simp)]
    simp
  | x :: post, pre, hf, hs, n, hn, k0, k1 => by
    obtain ⟨n, rfl⟩ : ∃ m', n = m' + 1 := ⟨n - 1, by omega⟩
    simp only [List.length_cons] at hs hn
    obtain ⟨f1, f2⟩ := hf x (by simp)
    have ih := implOpsText_loop m hm post (pre ++ [x]) (fun o ho => hf o (by simp [ho])) (by simp; omega) n (by omega) k0 k1
    rw [List.append_assoc] at ih
    simp only [impl_OpsText_L0_0, T.int_i, T.rows_l, ix_get, ix_next pre x (by omega)]
    have e1 : (⟨#[61]⟩ : BA) = eqW := rfl
    have e2 : (⟨#[63]⟩ : BA) = quW := rfl
    have e3 : (⟨#[45]⟩ : BA) = miW := rfl
    have s1 : eqW.size = 1 := rfl
    have s2 : quW.size = 1 := rfl
    have s3 : miW.size = 1 := rfl
    simp only [rO, List.getD_cons_zero, List.getD_cons_succ, T.str_s, T.int_i, ba_app_size, e1, e2, e3, s1, s2, s3]
    rw [dec_t (by simp; omega), dec_t (by simp; omega), isWord_ok x.val f2 hm, T.bool_b, List.all_cons]
    cases hp : plain x.val with
    | false => rfl
    | true =>
      simp only [Bool.not_true, cond_false, Bool.true_and]
      have go : ∀ w, w = wordO x → impl_OpsText_L0_0 m n (.l ((pre ++ x :: post).map rO)) (.i (pre ++ x :: post).length) (.i (pre ++ [x]).length) (.l ((pre.map fun o => [T.s (wordO o)]) ++ [[T.s w]])) k0 k1 =
          cond (post.all fun o => plain o.val) (k1 (.l ((pre ++ x :: post).map fun o => [T.s (wordO o)]))) (k0 (.s emp)) := by
        intro w hw
        subst hw
        refine Eq.trans ?_ ih
        congr 2
        simp
      by_cases c1 : x.kind = 1
      · rw [cond_t (by simp [c1]), dec_t (by omega), dec_t (by omega), dec_t (by simp [maxRow]; omega)]
        exact go _ (by simp [wordO, c1])
      · rw [cond_f (by simpa using c1)]
        by_cases c2 : x.kind = 2
        · rw [cond_t (by simp [c2]), dec_t (by omega), dec_t (by simp [maxRow]; omega)]
          exact go _ (by simp [wordO, c2])
        · rw [cond_f (by simpa using c2), dec_t (by omega), dec_t (by omega), dec_t (by simp [maxRow]; omega)]
          exact go _ (by simp [wordO, c1, c2])
theorem specOpsText_loop (m : Nat) (hm : 1048580 ≤ m) : ∀ (post pre : List DOp) (acc : BA), (∀ o ∈ post, opFit o) → pre.length + post.length ≤ 1048576 → acc.size + 4194304 * post.length ≤ 4398046511104 →
    ∀ n, post.length < n → ∀ k0 k1, spec_OpsText_L0_0 m n (.l ((pre ++ post).map rO)) (.s acc) (.i pre.length) k0 k1 =
      cond (post.all fun o => plain o.val && decide (o.val.size ≤ 20)) (k1 (.s (accW acc pre.length (post.map wordO)))) (k0 (.s emp))
  | [], pre, acc, hf, hs, hz, n, hn, k0, k1 => by
    obtain ⟨n, rfl⟩ : ∃ m', n = m' + 1 := ⟨n - 1, by omega⟩
    simp only [spec_OpsText_L0_0, T.int_i, T.rows_l]
    rw [dec_f (by simp)]
    simp [accW]
  | x :: post, pre, acc, hf, hs, hz, n, hn, k0, k1 => by
    obtain ⟨n, rfl⟩ : ∃ m', n = m' + 1 := ⟨n - 1, by omega⟩
    simp only [List.length_cons] at hs hn hz
    obtain ⟨f1, f2⟩ := hf x (by simp)
    simp only [spec_OpsText_L0_0, T.int_i, T.rows_l, ix_get, ix_next pre x (by omega)]
    have e0 : (⟨#[32]⟩ : BA) = spW := rfl
    have e1 : (⟨#[61]⟩ : BA) = eqW := rfl
    have e2 : (⟨#[63]⟩ : BA) = quW := rfl
    have e3 : (⟨#[45]⟩ : BA) = miW := rfl
    have s0 : spW.size = 1 := rfl
    have s1 : eqW.size = 1 := rfl
    have s2 : quW.size = 1 := rfl
    have s3 : miW.size = 1 := rfl
    simp only [rO, List.getD_cons_zero, List.getD_cons_succ, T.str_s, T.int_i, ba_app_size, e0, e1, e2, e3, s0, s1, s2, s3, List.drop_succ_cons, List.drop_zero]
    have lt : (pre.length : Int) < (((pre ++ x :: post).map rO).length : Int) := by simp; omega
    have lt2 : (0 : Int) ≤ pre.length ∧ (pre.length : Int) < (((pre ++ x :: post).map rO).length : Int) := ⟨by omega, lt⟩
    have go : ∀ acc2 w : BA, acc2.size ≤ acc.size + 4194304 → w = wordO x → acc2 = (if pre.length = 0 then acc else acc ++ spW) ++ w → spec_OpsText_L0_0 m n (.l ((pre ++ x :: post).map rO)) (.s acc2) (.i (pre ++ [x]).length) k0 k1 =
        cond (post.all fun o => plain o.val && decide (o.val.size ≤ 20)) (k1 (.s (accW acc pre.length ((x :: post).map wordO)))) (k0 (.s emp)) := by
      intro acc2 w h1 h2 h3
      have ih := specOpsText_loop m hm post (pre ++ [x]) acc2 (fun o ho => hf o (by simp [ho])) (by simp; omega) (by omega) n (by omega) k0 k1
      rw [List.append_assoc] at ih
      refine ih.trans ?_
      rw [List.map_cons, accW, h3, h2]
      simp
    rw [dec_t lt, List.all_cons]
    by_cases h0 : pre.length = 0
    · rw [dec_f (by omega), dec_t lt2, plain_ok x.val f2 hm, T.bool_b]
      cases hp : (plain x.val && decide (x.val.size ≤ 20)) with
      | false => rfl
      | true =>
        simp only [Bool.not_true, cond_false, Bool.true_and]
        by_cases c1 : x.kind = 1
        · rw [dec_t lt2, cond_t (by simp [c1]), dec_t lt2, dec_t (by omega), dec_t (by omega), dec_t lt2, dec_t (by omega)]
          exact go _ (x.key ++ eqW ++ x.val) (by simp [s1]; omega) (by simp [wordO, c1]) (by simp [h0, ba_assoc])
        · by_cases c2 : x.kind = 2
          · rw [dec_t lt2, cond_f (by simpa using c1), cond_t (by simp [c2]), dec_t (by omega), dec_t lt2, dec_t (by omega)]
            exact go _ (miW ++ x.key) (by simp [s3]; omega) (by simp [wordO, c2]) (by simp [h0, ba_assoc])
          · rw [dec_t lt2, cond_f (by simpa using c1), cond_f (by simpa using c2), dec_t lt2, dec_t (by omega), dec_t (by omega), dec_t lt2, dec_t (by omega)]
            exact go _ (x.key ++ quW ++ x.val) (by simp [s2]; omega) (by simp [wordO, c1, c2]) (by simp [h0, ba_assoc])
    · rw [dec_t (by omega), dec_t (by omega), dec_t lt2, plain_ok x.val f2 hm, T.bool_b]
      cases hp : (plain x.val && decide (x.val.size ≤ 20)) with
      | false => rfl
      | true =>
        simp only [Bool.not_true, cond_false, Bool.true_and]
        by_cases c1 : x.kind = 1
        · rw [dec_t lt2, cond_t (by simp [c1]), dec_t lt2, dec_t (by omega), dec_t (by omega), dec_t lt2, dec_t (by omega)]
          exact go _ (x.key ++ eqW ++ x.val) (by simp [s0, s1]; omega) (by simp [wordO, c1]) (by simp [h0, ba_assoc])
        · by_cases c2 : x.kind = 2
          · rw [dec_t lt2, cond_f (by simpa using c1), cond_t (by simp [c2]), dec_t (by omega), dec_t lt2, dec_t (by omega)]
            exact go _ (miW ++ x.key) (by simp [s0, s3]; omega) (by simp [wordO, c2]) (by simp [h0, ba_assoc])
          · rw [dec_t lt2, cond_f (by simpa using c1), cond_f (by simpa using c2), dec_t lt2, dec_t (by omega), dec_t (by omega), dec_t lt2, dec_t (by omega)]
            exact go _ (x.key ++ quW ++ x.val) (by simp [s0, s2]; omega) (by simp [wordO, c1, c2]) (by simp [h0, ba_assoc])
theorem opOk_val {o : DOp} (h : opOkP o = true) : o.val.size ≤ 20 := by
  unfold opOkP at h
  cases c2 : (o.kind == 2) with
  | true => rw [c2, cond_true] at h; simp only [Bool.and_eq_true, decide_eq_true_eq] at h; omega
  | false =>
    rw [c2, cond_false] at h
    cases c3 : (o.kind == 1 || o.kind == 3) with
    | true => rw [c3, cond_true] at h; simp only [Bool.and_eq_true, decide_eq_true_eq] at h; omega
    | false => rw [c3] at h; cases h
theorem okFrom_val : ∀ {p : BA} {l : List DOp}, okFrom p l = true → ∀ o ∈ l, o.val.size ≤ 20
  | _, [], _, o, h => by cases h
  | p, x :: r, hk, o, h => by
    simp only [okFrom, Bool.and_eq_true] at hk
    rcases List.mem_cons.1 h with rfl | h
    · exact opOk_val hk.1
    · exact okFrom_val hk.2.2 o h
theorem opsOk_val {l : List DOp} (h : opsOkP l = true) : l ≠ [] ∧ l.length ≤ 8 ∧ ∀ o ∈ l, o.val.size ≤ 20 := by
  match l, h with
  | o :: r, h =>
    simp only [opsOkP, Bool.and_eq_true, decide_eq_true_eq] at h
    refine ⟨by simp, by simp; omega, fun x hx => ?_⟩
    rcases List.mem_cons.1 hx with rfl | hx
    · exact opOk_val h.1.1
    · exact okFrom_val h.1.2 x hx
theorem accW_size : ∀ (r : List BA) (acc : BA) (i : Nat) (B : Nat), (∀ w ∈ r, w.size ≤ B) → (accW acc i r).size ≤ acc.size + r.length * (B + 1)
  | [], acc, i, B, _ => by simp [accW]
  | w :: r, acc, i, B, h => by
    have h1 := accW_size r ((if i = 0 then acc else acc ++ spW) ++ w) (i + 1) B fun w hw => h w (by simp [hw])
    have h2 := h w (by simp)
    have s0 : spW.size = 1 := rfl
    rw [accW, List.length_cons]
    have h3 : ((if i = 0 then acc else acc ++ spW) ++ w).size ≤ acc.size + 1 + w.size := by
      by_cases hi : i = 0
      · rw [if_pos hi, ba_app_size]; omega
      · rw [if_neg hi, ba_app_size, ba_app_size, s0]; omega
    have e : (r.length + 1) * (B + 1) = r.length * (B + 1) + (B + 1) := by rw [Nat.add_mul, Nat.one_mul]
    omega
theorem wordO_size {o : DOp} (h : opFit o) : (wordO o).size ≤ 2097153 := by
  obtain ⟨h1, h2⟩ := h
  have s1 : eqW.size = 1 := rfl
  have s2 : quW.size = 1 := rfl
  have s3 : miW.size = 1 := rfl
  unfold wordO
  split
  · simp only [ba_app_size, s1]; omega
  · split
    · simp only [ba_app_size, s3]; omega
    · simp only [ba_app_size, s2]; omega
/-- the text of orders -/
def opsTextP (os : List DOp) : BA := cond (opsOkP os && os.all fun o => plain o.val) (accW emp 0 (os.map wordO)) emp
theorem opsText_ok {m : Nat} (os : List DOp) (hf : ∀ o ∈ os, opFit o) (hs : os.length ≤ 1048576) (hm : 1048590 ≤ m) :
    (∀ k, impl_OpsText m (.l (os.map rO)) k = k (.s (opsTextP os))) ∧ (∀ k, spec_OpsText m (.l (os.map rO)) k = k (.s (opsTextP os))) := by
  obtain ⟨m, rfl⟩ : ∃ m', m = m' + 1 := ⟨m - 1, by omega⟩
  constructor
  · intro k
    simp only [impl_OpsText, T.rows_l, List.length_map]
    rw [implOpsOk_ok os hf hs (by omega), T.bool_b]
    unfold opsTextP
    cases hk : opsOkP os with
    | false => rfl
    | true =>
      obtain ⟨h1, h2, h3⟩ := opsOk_val hk
      simp only [Bool.not_true, cond_false, Bool.true_and]
      refine (implOpsText_loop m (by omega) os [] hf (by simp; omega) m (by omega) _ _).trans ?_
      cases ha : os.all fun o => plain o.val with
      | false => rfl
      | true =>
        match os, h1 with
        | o :: r, _ =>
        obtain ⟨m, rfl⟩ : ∃ m', m = m' + 1 := ⟨m - 1, by omega⟩
        have e : (([] : List DOp) ++ o :: r).map (fun o => [T.s (wordO o)]) = ((wordO o :: r.map wordO).map fun x => [T.s x]) := by simp
        have e2 : (⟨#[32]⟩ : BA) = spW := rfl
        have hz := accW_size ((o :: r).map wordO) emp 0 2097153 (fun w hw => by
          obtain ⟨x, hx, rfl⟩ := List.mem_map.1 hw
          exact wordO_size (hf x hx))
        have s0 : emp.size = 0 := rfl
        rw [List.map_cons] at hz
        simp only [List.length_cons, List.length_map, s0] at hz h2
        simp only [cond_true, strings_Join, T.rows_l]
        rw [e, e2, accW_join, dec_t (by unfold maxCells; omega), List.map_cons]
  · intro k
    simp only [spec_OpsText, T.rows_l]
    rw [specOpsOk_ok os hf hs (by omega), T.bool_b]
    unfold opsTextP
    cases hk : opsOkP os with
    | false => rfl
    | true =>
      obtain ⟨h1, h2, h3⟩ := opsOk_val hk
      simp only [Bool.not_true, cond_false, Bool.true_and]
      have s0 : (⟨#[]⟩ : BA).size = 0 := rfl
      refine (specOpsText_loop m (by omega) os [] ⟨#[]⟩ hf (by simp; omega) (by omega) m (by omega) _ _).trans ?_
      have e : (os.all fun o => plain o.val && decide (o.val.size ≤ 20)) = os.all fun o => plain o.val := by
        have : ∀ o ∈ os, (plain o.val && decide (o.val.size ≤ 20)) = plain o.val := fun o ho => by rw [decide_eq_true (h3 o ho), Bool.and_true]
        rw [Bool.eq_iff_iff, List.all_eq_true, List.all_eq_true]
        exact ⟨fun h o ho => (this o ho).symm.trans (h o ho), fun h o ho => (this o ho).trans (h o ho)⟩
      rw [e]
      cases os.all fun o => plain o.val <;> rfl
end Go.Proofs.Ytkocbeamfmfgiaa

namespace Go.Proofs.Ytkocbeamfmfgiaa
open Go Go.E Go.Proofs
def szO (o : DOp) : Nat := o.key.size + o.val.size
def szOs (ps : List DOp) : Nat := ps.length + (ps.map szO).sum
theorem szOp_ok {m : Nat} (hm : 1 ≤ m) (x : T) (a b : BA) (l : Int) (h : (a.size : Int) + b.size ≤ l) (hl : l ≤ 1048576) (k : T → An) :
    laws_szOp m x (.s a) (.s b) (.i l) k = k (.i (l - (a.size + b.size : Nat))) := by
  obtain ⟨m, rfl⟩ : ∃ m', m = m' + 1 := ⟨m - 1, by omega⟩
  have w1 : IntKind.i64.wrap (l - (a.size : Int)) = l - a.size := wrap_i64 (by omega) (by omega)
  have w2 : IntKind.i64.wrap (l - (a.size : Int) - b.size) = l - a.size - b.size := wrap_i64 (by omega) (by omega)
  simp only [laws_szOp, T.int_i, T.str_s, w1, w2]
  rw [dec_f (by omega), dec_f (by omega)]
  congr 2; omega
theorem szOpS_loop (m : Nat) (hm : 1 ≤ m) : ∀ (post pre : List DOp) (l : Int), ((post.map szO).sum : Int) ≤ l → l ≤ 1048576 → pre.length + post.length ≤ 1048576 →
    ∀ n, post.length < n → ∀ k0 k1, laws_szOpS_L0_0 m n (.l ((pre ++ post).map rO)) (.i l) (.i pre.length) k0 k1 = k1 (.i (l - (post.map szO).sum))
  | [], pre, l, h, hl, hs, n, hn, k0, k1 => by
    obtain ⟨n, rfl⟩ : ∃ m', n = m' + 1 := ⟨n - 1, by omega⟩
    simp only [laws_szOpS_L0_0, T.int_i, T.rows_l]
    rw [dec_f (by simp)]
    simp
  | x :: post, pre, l, h, hl, hs, n, hn, k0, k1 => by
    obtain ⟨n, rfl⟩ : ∃ m', n = m' + 1 := ⟨n - 1, by omega⟩
    simp only [List.map_cons, List.sum_cons, List.length_cons] at h hs hn ⊢
    simp only [laws_szOpS_L0_0, T.int_i, T.rows_l, ix_get, ix_next pre x (by omega)]
    rw [dec_t (by simp; omega), dec_t (by simp; omega)]
    have e : szO x = x.key.size + x.val.size := rfl
    simp only [rO, List.getD_cons_zero, List.getD_cons_succ]
    rw [szOp_ok hm _ _ _ _ (by omega) hl, T.int_i, dec_f (by omega)]
    have := szOpS_loop m hm post (pre ++ [x]) (l - (x.key.size + x.val.size : Nat)) (by omega) (by omega) (by simp; omega) n (by omega) k0 k1
    rw [List.append_assoc] at this
    rw [show pre ++ x :: post = pre ++ ([x] ++ post) from rfl]
    refine this.trans ?_
    congr 2; omega
theorem szOpS_ok {m : Nat} (ps : List DOp) (h : szOs ps ≤ 1048576) (hm : ps.length + 2 ≤ m) (k : T → An) :
    ∃ r : Int, 0 ≤ r ∧ laws_szOpS m (.l (ps.map rO)) (.i 1048576) k = k (.i r) := by
  obtain ⟨m, rfl⟩ : ∃ m', m = m' + 1 := ⟨m - 1, by omega⟩
  unfold szOs at h
  have w1 : IntKind.i64.wrap (1048576 - (ps.length : Int)) = 1048576 - (ps.length : Int) := wrap_i64 (by omega) (by omega)
  refine ⟨1048576 - ps.length - (ps.map szO).sum, by omega, ?_⟩
  simp only [laws_szOpS, T.int_i, T.rows_l, List.length_map, w1]
  rw [dec_f (by omega)]
  exact szOpS_loop m (by omega) ps [] _ (by omega) (by omega) (by simp; omega) m (by omega) _ _
theorem eqOp_ok {m : Nat} (hm : 1 ≤ m) (i : Int) (a b : BA) (k : T → An) : laws_eqOp m (.i i) (.s a) (.s b) (.i i) (.s a) (.s b) k = k (.b true) := by
  obtain ⟨m, rfl⟩ : ∃ m', m = m' + 1 := ⟨m - 1, by omega⟩
  simp only [laws_eqOp, T.str_s, T.int_i, beq_toList_self, Bool.not_true, cond_false, bne_self_eq_false]
theorem eqOpS_loop (m : Nat) (hm : 1 ≤ m) : ∀ (post pre : List DOp), pre.length + post.length ≤ 1048576 →
    ∀ n, post.length < n → ∀ k0 k1, laws_eqOpS_L0_0 m n (.l ((pre ++ post).map rO)) (.l ((pre ++ post).map rO)) (.i pre.length) k0 k1 = k1
  | [], pre, hs, n, hn, k0, k1 => by
    obtain ⟨n, rfl⟩ : ∃ m', n = m' + 1 := ⟨n - 1, by omega⟩
    simp only [laws_eqOpS_L0_0, T.int_i, T.rows_l]
    rw [dec_f (by simp)]
  | x :: post, pre, hs, n, hn, k0, k1 => by
    obtain ⟨n, rfl⟩ : ∃ m', n = m' + 1 := ⟨n - 1, by omega⟩
    simp only [List.length_cons] at hs hn ⊢
    simp only [laws_eqOpS_L0_0, T.int_i, T.rows_l, ix_get, ix_next pre x (by omega)]
    rw [dec_t (by simp; omega), dec_t (by simp; omega), dec_t (by simp; omega)]
    simp only [rO, List.getD_cons_zero, List.getD_cons_succ]
    rw [eqOp_ok hm]
    have := eqOpS_loop m hm post (pre ++ [x]) (by simp; omega) n (by omega) k0 k1
    rw [List.append_assoc] at this
    exact this
theorem eqOpS_ok {m : Nat} (ps : List DOp) (h : ps.length ≤ 1048576) (hm : ps.length + 2 ≤ m) (k : T → An) : laws_eqOpS m (.l (ps.map rO)) (.l (ps.map rO)) k = k (.b true) := by
  obtain ⟨m, rfl⟩ : ∃ m', m = m' + 1 := ⟨m - 1, by omega⟩
  simp only [laws_eqOpS, T.int_i, T.rows_l, bne_self_eq_false, cond_false]
  exact eqOpS_loop m (by omega) ps [] (by simpa using h) m (by omega) _ _
theorem toOp_ok {m : Nat} (hm : 1 ≤ m) (a b c : T) (k : T → T → T → An) : laws_toOp m a b c k = k a b c := by
  obtain ⟨m, rfl⟩ : ∃ m', m = m' + 1 := ⟨m - 1, by omega⟩
  simp only [laws_toOp]
theorem toOpS_loop (m : Nat) (hm : 1 ≤ m) : ∀ (post pre : List DOp) (z : List (List T)), z.length = post.length → (∀ r ∈ z, r.length = 3) → pre.length + post.length ≤ 1048576 →
    ∀ n, post.length < n → ∀ k0, laws_toOpS_L0_0 m n (.l ((pre ++ post).map rO)) (.i pre.length) (.l (pre.map rO ++ z)) k0 = k0 (.l ((pre ++ post).map rO))
  | [], pre, z, hz, hz2, hs, n, hn, k0 => by
    obtain ⟨n, rfl⟩ : ∃ m', n = m' + 1 := ⟨n - 1, by omega⟩
    obtain rfl : z = [] := List.eq_nil_of_length_eq_zero hz
    simp only [laws_toOpS_L0_0, T.int_i, T.rows_l]
    rw [dec_f (by simp)]
    simp
  | x :: post, pre, z, hz, hz2, hs, n, hn, k0 => by
    obtain ⟨n, rfl⟩ : ∃ m', n = m' + 1 := ⟨n - 1, by omega⟩
    simp only [List.length_cons] at hs hn hz ⊢
    match z, hz, hz2 with
    | r :: z, hz, hz2 =>
    simp only [List.length_cons] at hz
    match r, hz2 r (by simp) with
    | [c, d, e], _ =>
    simp only [laws_toOpS_L0_0, T.int_i, T.rows_l, ix_get, ix_next pre x (by omega), ix_get2 rO (pre.map rO) pre.length (by simp)]
    rw [dec_t (by simp; omega), dec_t (by simp; omega)]
    simp only [rO, List.getD_cons_zero, List.getD_cons_succ]
    rw [toOp_ok hm, dec_t (by simp; omega), dec_t (by simp)]
    have := toOpS_loop m hm post (pre ++ [x]) z (by omega) (fun r hr => hz2 r (by simp [hr])) (by simp; omega) n (by omega) k0
    rw [List.append_assoc] at this
    refine Eq.trans ?_ this
    congr 2
    simp [rO, List.set_append]
theorem toOpS_ok {m : Nat} (ps : List DOp) (h : ps.length ≤ 1048576) (hm : ps.length + 2 ≤ m) (k : T → An) : laws_toOpS m (.l (ps.map rO)) k = k (.l (ps.map rO)) := by
  obtain ⟨m, rfl⟩ : ∃ m', m = m' + 1 := ⟨m - 1, by omega⟩
  simp only [laws_toOpS, T.int_i, T.rows_l, List.length_map]
  rw [dec_t (by omega), dec_t (by unfold maxCells; omega)]
  exact toOpS_loop m (by omega) ps [] (List.replicate _ _) (by simp) (fun r hr => by rw [List.eq_of_mem_replicate hr]; rfl) (by simpa using h) m (by omega) _
theorem fnOps_ok (ps : List DOp) (h : szOs ps ≤ 1048576) (k : T → An) : laws_FnExactOpsText 1048600 (.l (ps.map rO)) k = k (.b true) := by
  have hf : ∀ o ∈ ps, opFit o := fun o ho => by
    have := le_sum (List.mem_map_of_mem (f := szO) ho)
    unfold szOs at h
    have e : szO o = o.key.size + o.val.size := rfl
    exact ⟨by omega, by omega⟩
  unfold szOs at h
  simp only [laws_FnExactOpsText, T.rows_l]
  obtain ⟨r, hr, h1⟩ := szOpS_ok (m := 1048599) ps h (by omega) (fun y0 => cond (decide (y0.int < 0)) (k (T.b true)) (laws_toOpS 1048599 (T.l (ps.map rO)) fun y1 => spec_OpsText 1048599 (T.l y1.rows) fun y2 =>
    laws_toOpS 1048599 (T.l (ps.map rO)) fun y3 => impl_OpsText 1048599 (T.l y3.rows) fun y4 => cond (!(y4.str.toList == y2.str.toList)) (k (T.b false))
    (laws_toOpS 1048599 (T.l (ps.map rO)) fun y5 => laws_eqOpS 1048599 (T.l y3.rows) (T.l y5.rows) fun y6 => cond (!y6.bool) (k (T.b false)) (k (T.b true)))))
  refine h1.trans ?_
  obtain ⟨h2, h3⟩ := opsText_ok (m := 1048599) ps hf (by omega) (by omega)
  simp only [T.int_i]
  rw [dec_f (by omega), toOpS_ok ps (by omega) (by omega), T.rows_l, h3, toOpS_ok ps (by omega) (by omega), T.rows_l, h2]
  simp only [T.str_s, beq_toList_self, Bool.not_true, cond_false]
  rw [toOpS_ok ps (by omega) (by omega), T.rows_l, eqOpS_ok ps (by omega) (by omega)]
  rfl
end Go.Proofs.Ytkocbeamfmfgiaa

