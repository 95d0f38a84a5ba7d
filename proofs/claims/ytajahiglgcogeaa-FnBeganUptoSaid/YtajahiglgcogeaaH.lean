/- A part of the proof: texts EPrim6, CH: see the last part's opening words. -/
import Derived.Test.YtajahiglgcogeaaE3
import Derived.Shelf.SlicesE.Clone
import Derived.Test.YtajahiglgcogeaaProg
set_option linter.unusedVariables false
set_option linter.unusedSimpArgs false
set_option linter.unnecessarySimpa false
namespace Go.Proofs
open Go Go.Shelf Go.RowKit Go.Lib
variable {P : Program} {ρ : Ren}
set_option maxHeartbeats 2000000 in
set_option maxRecDepth 100000 in
/-- slices.Clone of no rows, wherever they lie -/
theorem clone_zero (L : SlLaysE0.n41 P ρ) (i0 : TypeInfo) (z : Value) (size bytes : Nat) (hi : P.info? (ρ.t 23) = some i0) (hz0 : i0.zero = some z) (hz1 : i0.size = size) (hz2 : i0.bytes = bytes) (hzs : z.cells.size = size) (hsz : 0 < size)
    (z23 : ∀ w, (Go.sizeOf (ρ.t 23)).run P w = .ok size w) (ad : Addr) (c : Nat) (w : World) :
    Calls P (ρ.f 41) #[.slice (some ad) 0 c] w fun e w' => ∃ v', e = .returned v' ∧ w'.ownsRow w.heap.size (ρ.t 23) size v' 0 [] ∧ Below w.heap.size w w' := by
  have mixed := L.mixed; have t4 := L.t4; have a4 := L.a4; have z4 := L.z4; have v4 := L.v4; have t22 := L.t22; have a22 := L.a22; have z22 := L.z22; have v22 := L.v22
  have q22 : ∀ (w : World) (a : Option Addr) (n c n' c' : Nat), (binOp .eql (ρ.t 22) (.slice a n c) (.slice none n' c')).run P w = .ok (.bool a.isNone) w := fun w a n c n' c' => Lib.run_eql_slice_nil w _ _ a n c n' c' L.t22
  have u22 : ∀ w, Sem.run P (underlying (ρ.t 22)) w = .ok (TypeDesc.slice (ρ.t 23)) w := run_underlying t22
  obtain ⟨_, _, FG⟩ := L.f41
  go_enter FG, SlBodyN.n41_ntmps ρ
  go_wp2_with (at_builtin; refine wpList_append_own _ rfl _ _ (ρ.t 22) rfl w.heap.size (ρ.t 23) i0 z size bytes t22 hi hz0 hz1 hz2 hzs hsz _ _ _ rfl (World.ownsRow_made w #[] 0 (Nat.le_refl _) (Nat.zero_le _) (by simp)) ad 0 c [] rfl ?qc1 ?qc2 ?qc3 ?qc4 ?qc5 ?qc6 ?_)
  case qc1 => simp
  case qc2 => intro j u hj; simp at hj
  case qc3 => intro u hu; cases hu
  case qc4 => simp
  case qc5 => simp
  case qc6 => simp
  intro v' w1 hown hgrow hnil
  go_wp2
  go_ret
  refine ⟨v', rfl, by simpa using hown, ?_⟩
  exact ((Below.refl _ w).alloc (Nat.le_refl _) _).grown hgrow (by simp) (by intro k hk; simp [Value.ownBlock] at hk; omega)
end Go.Proofs
namespace Go.E
open Go Go.Shelf Go.Proofs Go.RowKit
section
variable {g0 : Gh} {I A : Foot} {w w' : World} {vs : Array Value} {es : List LT} {ms : List M} {rows : List (List T)}
/-- a contract that hands back a new chunk -/
theorem ret_new {args : List Arg} {h : Value} {F : Foot} (hp : Pre g0 I A args w vs) (hb : Below w.heap.size w w') (hrow : RowOwn w' I es ms rows h F) (hF : ∀ b o, F b o → w.heap.size ≤ b) (hs : Single h) :
    RetR g0 I A args w ⟨[.one (.own [7000000] es ms rows)], [[none]], []⟩ (g0.set [7000000] h F) I w' h := by
  have hno : ∀ {i j : Nat} {x : List LT × List M × List (List T)}, ownOf ⟨[.one (.own [7000000] es ms rows)], [[none]], []⟩ i j ≠ some x := by
    intro i j x
    match i, j with
    | 0, 0 => simp [ownOf]
    | 0, j + 1 => simp [ownOf]
    | i + 1, j => simp [ownOf]
  have hk1 := keeps_below hb (fun _ _ => True)
  refine ⟨⟨[h], rfl, ⟨hs, ?_⟩, trivial⟩, fun i j es1 ms1 rows1 h => absurd h hno, fun i ls h => by simp [bxOf] at h, by simp [retKeys, keysOfR], fun k hk i j hij => ?_, fun k k' h h' hne => absurd ((take1_out h).trans (take1_out h').symm) hne, fun k h => ?_, fun k h => ?_, fun _ _ h => h, fun _ _ h _ => h, fun b o hi => ?_, hk1.weaken fun _ _ _ => trivial⟩
  · exact ⟨by rw [Gh.set_h], by rw [Gh.set_F]; exact hrow⟩
  · rcases hij with ⟨y, h⟩ | ⟨-, ls, h⟩
    · exact absurd h hno
    · simp [bxOf] at h
  · rw [take1_out h, Gh.set_F]
    intro b o hf hi
    have := cell_lt (hp.iwf b o hi)
    have := hF b o hf
    omega
  · rw [take1_out h, Gh.set_F]
    intro b o hf hi
    have := cell_lt (hp.awf b o hi)
    have := hF b o hf
    omega
  · obtain ⟨v, hv⟩ := hp.iwf b o hi
    exact ⟨v, (hk1.cell trivial ⟨v, hv⟩).trans hv⟩
/-- rows that a call has made -/
theorem own_made {S : Foot} {el : TypeId} {v : Value} {news : List Value} {base : Nat} (hes : es ≠ []) (hm : noO ms) (hmax : rows.length ≤ maxCells) (hr : RowsV w' I es rows news) (ho : w'.ownsRow base el es.length v rows.length news) :
    ∃ F, RowOwn w' I es ms rows v F ∧ (∀ b o, F b o → base ≤ b) ∧ Single v := by
  obtain ⟨hl, ⟨rfl, h0⟩ | ⟨g, cap, cur, rfl, hb, hg, hc, -, hsz, ht⟩⟩ := ho
  · have : rows = [] := List.length_eq_zero_iff.1 h0
    subst this
    exact ⟨fun _ _ => False, RowOwn.nil hes fun _ _ h => h, fun _ _ h => h.elim, ⟨fun _ h => (nomatch h), fun _ h => (nomatch h)⟩⟩
  · refine ⟨fun b o => b = g ∧ o < cur.size, RowOwn.mk' (bs := []) hes hmax hc hg hsz (fun o ho => by omega) ?_ ⟨fun h => (nomatch h), trivial⟩ (fun b' o' => ⟨.inl, fun h => h.elim (fun h => h) fun h => (nomatch h.1)⟩), fun b o h => h.1 ▸ hb, ⟨fun _ h => (nomatch h), fun _ h => (nomatch h)⟩⟩
    refine RowsOf.cells (hr.toM hm) ?_
    rw [← hl, List.take_length, hl]; exact ht
end
def primClone (es : List LT) : List Arg → R3 Ret
  | [.one (.dz es' rows)] => cond (LT.beqs es es' && flatLs es && Nat.ble es.length 1000) (cond (decide (rows.length * es.length ≤ maxRow)) (.ok ⟨[.one (.own [7000000] es (es.map fun _ => .F) rows)], [[none]], []⟩) .bad) .bad
  | [.one (.fz es' rows)] => cond (LT.beqs es es' && flatLs es && Nat.ble es.length 1000) (cond (decide (rows.length * es.length ≤ maxRow)) (.ok ⟨[.one (.own [7000000] es (es.map fun _ => .F) rows)], [[none]], []⟩) .bad) .bad
  | _ => .bad
theorem zeroVs_len : ∀ {lts : List LT} {vs : List Value}, zeroVs lts vs → vs.length = lts.length
  | [], [], _ => rfl
  | _ :: _, _ :: _, h => by simp [zeroVs_len h.2]
  | [], _ :: _, h => h.elim
  | _ :: _, [], h => h.elim
theorem primClone_ok {Γ : Ctx} {P : Program} {ρ : Shelf.Ren} (hΓ : CtxOk Γ P) (L : SlLaysE0.n41 P ρ) {te : TI} (hte : Γ.ty (ρ.t 23) = some te) (hne : te.lts ≠ []) {args : List Arg} (h : primClone te.lts args ≠ .bad) : FnOk P (ρ.f 41) args (primClone te.lts args) := by
  have htok := hΓ.ty _ _ hte
  obtain ⟨i0, hi1, hi2, hi3, hi4, hi5, z, hz, hzs⟩ := htok.info
  have hzl := zeroVs_len hzs
  have key : ∀ (S : Foot) (arg : Arg) (rows : List (List T)) (g0 : Gh) (I A : Foot) (w : World) (vs : Array Value), Pre g0 I A [arg] w vs → (∀ v, ArgR g0 w I 0 arg v → LeafR w S (.sl te.lts) v (.l rows)) →
      flatLs te.lts = true → te.lts.length ≤ 1000 → rows.length * te.lts.length ≤ maxRow →
      Calls P (ρ.f 41) vs w fun
        | .returned v, w' => ∃ ret g' I', R3.ok (⟨[.one (.own [7000000] te.lts (te.lts.map fun _ => .F) rows)], [[none]], []⟩ : Ret) = .ok ret ∧ RetR g0 I A [arg] w ret g' I' w' v
        | .panicked _, _ => False
        | .outgrown, _ => False := by
    intro S arg rows g0 I A w vs hp hv hf hle hmr
    obtain ⟨v, rfl, hav⟩ : ∃ v, vs = #[v] ∧ ArgR g0 w I 0 arg v := by
      have hrel := hp.rel
      match hl : vs.toList, hrel with
      | [v], hrel => exact ⟨v, Array.toList_inj.1 (by simpa using hl), hrel.1⟩
      | [], hrel => exact hrel.elim
      | _ :: _ :: _, hrel => exact hrel.2.elim
    obtain ⟨aa, cap, news, rfl, hcap, hmax, hnl, hrv, hplace⟩ := leaf_cells (hv v hav)
    have hone : ∀ u ∈ news, u.oneCell' = true := fun u hu => (hrv.single hnl u hu).one
    have hpos : 0 < te.lts.length := List.length_pos_iff.2 hne
    have fin : ∀ (v' : Value) (w' : World), w'.ownsRow w.heap.size (ρ.t 23) te.lts.length v' rows.length news → Below w.heap.size w w' →
        ∃ ret g' I', R3.ok (⟨[.one (.own [7000000] te.lts (te.lts.map fun _ => .F) rows)], [[none]], []⟩ : Ret) = .ok ret ∧ RetR g0 I A [arg] w ret g' I' w' v' := by
      intro v' w' ho hb
      obtain ⟨F, h1, h2, h3⟩ := own_made (I := I) (S := S) hne (noO_F te.lts) hmax (hrv.flat hf) ho
      exact ⟨_, _, _, rfl, ret_new hp hb h1 h2 h3⟩
    cases aa with
    | none =>
      refine (AnyE.slices_Clone_nil L rows.length cap w).mono fun e w' ⟨he, hw⟩ => ?_
      subst he hw
      have hr0 : rows = [] := by
        rcases hplace with h | ⟨b, o, h, -⟩
        · exact h
        · cases h
      subst hr0
      exact fin _ _ ⟨by simpa using hnl, .inl ⟨rfl, rfl⟩⟩ (Below.refl _ _)
    | some ad =>
      rcases hplace with hr0 | ⟨b, o, h, hc, -⟩
      · subst hr0
        have hn0 : news = [] := List.length_eq_zero_iff.1 (by simpa using hnl)
        subst hn0
        refine (clone_zero L i0 z te.lts.length i0.bytes hi1 hz hi2 rfl (by rw [← Array.length_toList]; exact hzl) hpos (fun w => run_sizeOf htok) ad cap w).mono fun e w' ⟨v', he, ho, hb⟩ => ?_
        subst he
        exact fin v' w' ho hb
      · cases h
        refine (AnyE.slices_Clone L i0 z te.lts.length i0.bytes hi1 hz hi2 rfl (by rw [← Array.length_toList]; exact hzl) hpos (fun w => run_sizeOf htok) b o rows.length cap news w hnl (by unfold maxLen; unfold maxCells at hmax; omega) ?_ ?_ hone).mono fun e w' ⟨v', he, ho, _, hb⟩ => ?_
        · have h1 : rows.length * i0.bytes ≤ rows.length * (24 * te.lts.length) := Nat.mul_le_mul_left _ hi5
          have h2 : rows.length * (24 * te.lts.length) = 24 * (rows.length * te.lts.length) := by rw [Nat.mul_left_comm]
          unfold maxRow at hmr
          omega
        · intro j u hu
          obtain ⟨hj, rfl⟩ := List.getElem?_eq_some_iff.1 hu
          exact hc.get j hj
        · subst he
          exact fin v' w' ho hb
  unfold primClone at h ⊢
  split at h
  · rename_i es' rows
    cases hc : (LT.beqs te.lts es' && flatLs te.lts && Nat.ble te.lts.length 1000) with
    | false => rw [hc] at h; exact absurd rfl h
    | true =>
      cases hm : decide (rows.length * te.lts.length ≤ maxRow) with
      | false => rw [hc, hm] at h; exact absurd rfl h
      | true =>
        simp only [Bool.and_eq_true] at hc
        have := LT.beqs_eq hc.1.1
        subst this
        intro g0 I A w vs hp
        exact key (ID g0 I) _ rows g0 I A w vs hp (fun v hv => hv) hc.1.2 (Nat.le_of_ble_eq_true hc.2) (of_decide_eq_true hm)
  · rename_i es' rows
    cases hc : (LT.beqs te.lts es' && flatLs te.lts && Nat.ble te.lts.length 1000) with
    | false => rw [hc] at h; exact absurd rfl h
    | true =>
      cases hm : decide (rows.length * te.lts.length ≤ maxRow) with
      | false => rw [hc, hm] at h; exact absurd rfl h
      | true =>
        simp only [Bool.and_eq_true] at hc
        have := LT.beqs_eq hc.1.1
        subst this
        intro g0 I A w vs hp
        exact key I _ rows g0 I A w vs hp (fun v hv => hv) hc.1.2 (Nat.le_of_ble_eq_true hc.2) (of_decide_eq_true hm)
  · exact absurd rfl h
end Go.E

namespace Go.Proofs.Ytajahiglgcogeaa
open Go Go.E Go.Proofs
noncomputable section
def tyTab : List (Option TI) := [
  none,
  some ⟨.other, [.sc (.any)], 8, false⟩,
  some ⟨.sc (.int .i64), [.sc (.int .i64)], 8, false⟩,
  some ⟨.sc (.int .i64), [.sc (.int .i64)], 8, false⟩,
  some ⟨.sc (.bool), [.sc (.bool)], 1, false⟩,
  some ⟨.sc (.int .u8), [.sc (.int .u8)], 1, false⟩,
  some ⟨.sc (.int .u8), [.sc (.int .u8)], 1, false⟩,
  some ⟨.struct [(0, 2), (1, 3), (2, 4), (3, 6)], [.sc (.int .i64), .sc (.int .i64), .sc (.bool), .sc (.int .u8)], 24, true⟩,
  some ⟨.struct [(0, 2), (1, 3), (2, 4), (3, 6)], [.sc (.int .i64), .sc (.int .i64), .sc (.bool), .sc (.int .u8)], 24, true⟩,
  some ⟨.sc (.str), [.sc (.str)], 16, false⟩,
  some ⟨.sc (.str), [.sc (.str)], 16, false⟩,
  some ⟨.sc (.str), [.sc (.str)], 16, false⟩,
  some ⟨.sc (.int .u64), [.sc (.int .u64)], 8, false⟩,
  some ⟨.struct [(0, 9), (1, 12)], [.sc (.str), .sc (.int .u64)], 24, false⟩,
  some ⟨.struct [(0, 9), (1, 12)], [.sc (.str), .sc (.int .u64)], 24, false⟩,
  some ⟨.ptr 127, [.sc (.any)], 8, false⟩,
  some ⟨.ptr 130, [.sc (.any)], 8, false⟩,
  some ⟨.ptr 138, [.sc (.any)], 8, false⟩,
  some ⟨.struct [(0, 17)], [.sc (.any)], 8, false⟩,
  some ⟨.struct [(0, 17)], [.sc (.any)], 8, false⟩,
  some ⟨.other, [.sc (.any)], 16, false⟩,
  some ⟨.sc (.int .i32), [.sc (.int .i32)], 4, false⟩,
  some ⟨.slice 5, [.sl [.sc (.int .u8)]], 24, false⟩,
  some ⟨.other, [.sc (.any)], 8, false⟩,
  some ⟨.slice 64, [.sl [.sc (.int .i64), .sl [.sc (.int .i64), .sc (.str), .sc (.str)], .sc (.int .i64), .sl [.sc (.int .i64)]]], 24, false⟩,
  some ⟨.slice 42, [.sl [.sc (.int .i64), .sc (.bool)]], 24, false⟩,
  some ⟨.struct [(0, 3), (1, 3), (2, 3), (3, 24), (4, 25), (5, 3)], [.sc (.int .i64), .sc (.int .i64), .sc (.int .i64), .sl [.sc (.int .i64), .sl [.sc (.int .i64), .sc (.str), .sc (.str)], .sc (.int .i64), .sl [.sc (.int .i64)]], .sl [.sc (.int .i64), .sc (.bool)], .sc (.int .i64)], 80, false⟩,
  some ⟨.struct [(0, 3), (1, 3), (2, 3), (3, 24), (4, 25), (5, 3)], [.sc (.int .i64), .sc (.int .i64), .sc (.int .i64), .sl [.sc (.int .i64), .sl [.sc (.int .i64), .sc (.str), .sc (.str)], .sc (.int .i64), .sl [.sc (.int .i64)]], .sl [.sc (.int .i64), .sc (.bool)], .sc (.int .i64)], 80, false⟩,
  some ⟨.slice 56, [.sl [.sc (.int .i64), .sc (.str), .sc (.str)]], 24, false⟩,
  none,
  some ⟨.other, [.sc (.any)], 8, false⟩,
  some ⟨.slice 39, [.sl [.sc (.int .i64), .sc (.int .i64), .sc (.int .i64), .sl [.sc (.int .i64), .sc (.str), .sc (.str)], .sc (.bool)]], 24, false⟩,
  none,
  some ⟨.other, [.sc (.any)], 8, false⟩,
  some ⟨.slice 3, [.sl [.sc (.int .i64)]], 24, false⟩,
  some ⟨.other, [.sc (.any)], 8, false⟩,
  some ⟨.other, [.sc (.any)], 8, false⟩,
  some ⟨.other, [.sc (.any)], 8, false⟩,
  some ⟨.struct [(0, 3), (1, 3), (2, 3), (3, 28), (4, 4)], [.sc (.int .i64), .sc (.int .i64), .sc (.int .i64), .sl [.sc (.int .i64), .sc (.str), .sc (.str)], .sc (.bool)], 56, false⟩,
  some ⟨.struct [(0, 3), (1, 3), (2, 3), (3, 28), (4, 4)], [.sc (.int .i64), .sc (.int .i64), .sc (.int .i64), .sl [.sc (.int .i64), .sc (.str), .sc (.str)], .sc (.bool)], 56, false⟩,
  some ⟨.other, [.sc (.any)], 8, false⟩,
  some ⟨.struct [(0, 3), (1, 4)], [.sc (.int .i64), .sc (.bool)], 16, true⟩,
  some ⟨.struct [(0, 3), (1, 4)], [.sc (.int .i64), .sc (.bool)], 16, true⟩,
  none,
  some ⟨.other, [.sc (.any)], 8, false⟩,
  some ⟨.ptr 69, [.sc (.any)], 8, false⟩,
  some ⟨.other, [.sc (.any)], 8, false⟩,
  some ⟨.other, [.sc (.any)], 8, false⟩,
  some ⟨.other, [.sc (.any)], 8, false⟩,
  some ⟨.other, [.sc (.any)], 8, false⟩,
  some ⟨.other, [.sc (.any)], 8, false⟩,
  none,
  some ⟨.other, [.sc (.any)], 8, false⟩,
  some ⟨.other, [.sc (.any)], 8, false⟩,
  some ⟨.ptr 27, [.sc (.any)], 8, false⟩,
  some ⟨.struct [(0, 3), (1, 9), (2, 9)], [.sc (.int .i64), .sc (.str), .sc (.str)], 40, true⟩,
  some ⟨.struct [(0, 3), (1, 9), (2, 9)], [.sc (.int .i64), .sc (.str), .sc (.str)], 40, true⟩,
  some ⟨.other, [.sc (.any)], 8, false⟩,
  some ⟨.other, [.sc (.any)], 8, false⟩,
  some ⟨.other, [.sc (.any)], 8, false⟩,
  some ⟨.other, [.sc (.any)], 8, false⟩,
  some ⟨.other, [.sc (.any)], 8, false⟩,
  some ⟨.other, [.sc (.any)], 8, false⟩,
  some ⟨.struct [(0, 3), (1, 28), (2, 3), (3, 34)], [.sc (.int .i64), .sl [.sc (.int .i64), .sc (.str), .sc (.str)], .sc (.int .i64), .sl [.sc (.int .i64)]], 64, false⟩,
  some ⟨.struct [(0, 3), (1, 28), (2, 3), (3, 34)], [.sc (.int .i64), .sl [.sc (.int .i64), .sc (.str), .sc (.str)], .sc (.int .i64), .sl [.sc (.int .i64)]], 64, false⟩,
  some ⟨.other, [.sc (.any)], 8, false⟩,
  some ⟨.other, [.sc (.any)], 8, false⟩,
  some ⟨.other, [.sc (.any)], 8, false⟩,
  some ⟨.struct [(0, 22), (1, 3), (2, 3)], [.sl [.sc (.int .u8)], .sc (.int .i64), .sc (.int .i64)], 40, false⟩,
  some ⟨.struct [(0, 22), (1, 3), (2, 3)], [.sl [.sc (.int .u8)], .sc (.int .i64), .sc (.int .i64)], 40, false⟩,
  some ⟨.other, [.sc (.any)], 8, false⟩,
  some ⟨.other, [.sc (.any)], 8, false⟩,
  some ⟨.other, [.sc (.any)], 8, false⟩,
  some ⟨.other, [.sc (.any)], 8, false⟩,
  some ⟨.other, [.sc (.any)], 8, false⟩,
  some ⟨.other, [.sc (.any)], 8, false⟩,
  some ⟨.other, [.sc (.any)], 8, false⟩,
  some ⟨.other, [.sc (.any)], 8, false⟩,
  some ⟨.other, [.sc (.any)], 8, false⟩,
  some ⟨.other, [.sc (.any)], 8, false⟩,
  some ⟨.other, [.sc (.any)], 8, false⟩,
  some ⟨.other, [.sc (.any)], 8, false⟩,
  some ⟨.other, [.sc (.any)], 8, false⟩,
  some ⟨.other, [.sc (.any)], 8, false⟩,
  some ⟨.sc (.int .u64), [.sc (.int .u64)], 8, false⟩,
  some ⟨.other, [.sc (.any)], 8, false⟩,
  some ⟨.other, [.sc (.any)], 8, false⟩,
  some ⟨.other, [.sc (.any)], 8, false⟩,
  some ⟨.other, [.sc (.any)], 8, false⟩,
  some ⟨.other, [.sc (.any)], 8, false⟩,
  some ⟨.other, [.sc (.any)], 8, false⟩,
  some ⟨.other, [.sc (.any)], 8, false⟩,
  some ⟨.other, [.sc (.any)], 8, false⟩,
  some ⟨.other, [.sc (.any)], 8, false⟩,
  some ⟨.other, [.sc (.any)], 8, false⟩,
  some ⟨.slice 9, [.sl [.sc (.str)]], 24, false⟩,
  some ⟨.other, [.sc (.any)], 8, false⟩,
  some ⟨.sc (.int .u32), [.sc (.int .u32)], 4, false⟩,
  some ⟨.other, [.sc (.any)], 8, false⟩,
  some ⟨.sc (.int .i64), [.sc (.int .i64)], 8, false⟩,
  none,
  some ⟨.other, [.sc (.any)], 8, false⟩,
  some ⟨.other, [.sc (.any)], 8, false⟩,
  some ⟨.other, [.sc (.any)], 8, false⟩,
  some ⟨.other, [.sc (.any)], 8, false⟩,
  none,
  some ⟨.other, [.sc (.any)], 8, false⟩,
  some ⟨.other, [.sc (.any)], 8, false⟩,
  some ⟨.other, [.sc (.any)], 8, false⟩,
  some ⟨.sc (.int .u64), [.sc (.int .u64)], 8, false⟩,
  some ⟨.other, [.sc (.any)], 8, false⟩,
  some ⟨.other, [.sc (.any)], 8, false⟩,
  some ⟨.ptr 64, [.sc (.any)], 8, false⟩,
  some ⟨.other, [.sc (.any)], 8, false⟩,
  some ⟨.sc (.int .u64), [.sc (.int .u64)], 8, false⟩,
  some ⟨.other, [.sc (.any)], 8, false⟩,
  some ⟨.other, [.sc (.any)], 8, false⟩,
  some ⟨.other, [.sc (.any)], 8, false⟩,
  some ⟨.ptr 3, [.sc (.any)], 8, false⟩,
  some ⟨.other, [.sc (.any)], 8, false⟩,
  some ⟨.other, [.sc (.any)], 8, false⟩,
  some ⟨.ptr 114, [.sc (.any)], 8, false⟩,
  none,
  some ⟨.other, [.sc (.any)], 8, false⟩,
  some ⟨.other, [.sc (.any)], 8, false⟩,
  some ⟨.other, [.sc (.any)], 8, false⟩,
  some ⟨.struct [(0, 17), (1, 17), (2, 17), (3, 9)], [.sc (.any), .sc (.any), .sc (.any), .sc (.str)], 40, false⟩,
  some ⟨.struct [(0, 17), (1, 17), (2, 17), (3, 9)], [.sc (.any), .sc (.any), .sc (.any), .sc (.str)], 40, false⟩,
  some ⟨.array 0 16, [], 0, false⟩,
  none,
  none,
  some ⟨.sc (.int .u8), [.sc (.int .u8)], 1, false⟩,
  some ⟨.sc (.int .u8), [.sc (.int .u8)], 1, false⟩,
  some ⟨.other, [.sc (.any)], 8, false⟩,
  some ⟨.ptr 5, [.sc (.any)], 8, false⟩,
  some ⟨.sc (.int .i32), [.sc (.int .i32)], 4, false⟩,
  some ⟨.sc (.int .i32), [.sc (.int .i32)], 4, false⟩,
  some ⟨.struct [(0, 12), (1, 12), (2, 97), (3, 131), (4, 5), (5, 5), (6, 132), (7, 133), (8, 134), (9, 135), (10, 136)], [.sc (.int .u64), .sc (.int .u64), .sc (.int .u32), .sc (.int .u8), .sc (.int .u8), .sc (.int .u8), .sc (.int .u8), .sc (.any), .sc (.any), .sc (.int .i32), .sc (.int .i32)], 48, false⟩,
  some ⟨.struct [(0, 12), (1, 12), (2, 97), (3, 131), (4, 5), (5, 5), (6, 132), (7, 133), (8, 134), (9, 135), (10, 136)], [.sc (.int .u64), .sc (.int .u64), .sc (.int .u32), .sc (.int .u8), .sc (.int .u8), .sc (.int .u8), .sc (.int .u8), .sc (.any), .sc (.any), .sc (.int .i32), .sc (.int .i32)], 48, false⟩,
  some ⟨.other, [.sc (.any)], 8, false⟩,
  some ⟨.other, [.sc (.any)], 8, false⟩]
noncomputable def fnTab : List (Nat × Func) := [
  (2, Try.f2),
  (3, Try.f3),
  (4, Try.f4),
  (5, Try.f5),
  (6, Try.f6),
  (7, Try.f7),
  (8, Try.f8),
  (9, Try.f9),
  (10, Try.f10),
  (11, Try.f11),
  (12, Try.f12),
  (13, Try.f13),
  (14, Try.f14),
  (15, Try.f15),
  (16, Try.f16),
  (17, Try.f17),
  (18, Try.f18),
  (19, Try.f19),
  (20, Try.f20),
  (21, Try.f21),
  (22, Try.f22),
  (23, Try.f23),
  (24, Try.f24),
  (25, Try.f25),
  (26, Try.f26),
  (27, Try.f27),
  (28, Try.f28),
  (29, Try.f29),
  (30, Try.f30),
  (31, Try.f31),
  (32, Try.f32),
  (33, Try.f33),
  (34, Try.f34),
  (35, Try.f35),
  (36, Try.f36),
  (37, Try.f37),
  (38, Try.f38),
  (39, Try.f39),
  (40, Try.f40),
  (41, Try.f41),
  (42, Try.f42),
  (43, Try.f43),
  (44, Try.f44),
  (45, Try.f45),
  (46, Try.f46),
  (47, Try.f47),
  (48, Try.f48),
  (49, Try.f49),
  (50, Try.f50),
  (51, Try.f51),
  (52, Try.f52),
  (53, Try.f53),
  (54, Try.f54),
  (55, Try.f55),
  (56, Try.f56),
  (57, Try.f57),
  (58, Try.f58),
  (59, Try.f59),
  (60, Try.f60),
  (61, Try.f61),
  (62, Try.f62),
  (63, Try.f63),
  (64, Try.f64),
  (65, Try.f65),
  (66, Try.f66),
  (67, Try.f67),
  (68, Try.f68),
  (69, Try.f69),
  (70, Try.f70),
  (71, Try.f71),
  (72, Try.f72),
  (73, Try.f73),
  (74, Try.f74),
  (75, Try.f75),
  (76, Try.f76),
  (77, Try.f77),
  (78, Try.f78),
  (79, Try.f79),
  (80, Try.f80),
  (81, Try.f81),
  (82, Try.f82),
  (83, Try.f83),
  (84, Try.f84),
  (85, Try.f85),
  (86, Try.f86),
  (87, Try.f87),
  (88, Try.f88),
  (89, Try.f89),
  (90, Try.f90),
  (91, Try.f91),
  (92, Try.f92),
  (93, Try.f93),
  (94, Try.f94)]
theorem fns_ok : FnsOk Try.prog fnTab := by
  unfold fnTab
  exact ⟨⟨Try.func2, by kernel_rfl, by kernel_rfl⟩, ⟨Try.func3, by kernel_rfl, by kernel_rfl⟩, ⟨Try.func4, by kernel_rfl, by kernel_rfl⟩, ⟨Try.func5, by kernel_rfl, by kernel_rfl⟩, ⟨Try.func6, by kernel_rfl, by kernel_rfl⟩, ⟨Try.func7, by kernel_rfl, by kernel_rfl⟩, ⟨Try.func8, by kernel_rfl, by kernel_rfl⟩, ⟨Try.func9, by kernel_rfl, by kernel_rfl⟩, ⟨Try.func10, by kernel_rfl, by kernel_rfl⟩, ⟨Try.func11, by kernel_rfl, by kernel_rfl⟩, ⟨Try.func12, by kernel_rfl, by kernel_rfl⟩, ⟨Try.func13, by kernel_rfl, by kernel_rfl⟩, ⟨Try.func14, by kernel_rfl, by kernel_rfl⟩, ⟨Try.func15, by kernel_rfl, by kernel_rfl⟩, ⟨Try.func16, by kernel_rfl, by kernel_rfl⟩, ⟨Try.func17, by kernel_rfl, by kernel_rfl⟩, ⟨Try.func18, by kernel_rfl, by kernel_rfl⟩, ⟨Try.func19, by kernel_rfl, by kernel_rfl⟩, ⟨Try.func20, by kernel_rfl, by kernel_rfl⟩, ⟨Try.func21, by kernel_rfl, by kernel_rfl⟩, ⟨Try.func22, by kernel_rfl, by kernel_rfl⟩, ⟨Try.func23, by kernel_rfl, by kernel_rfl⟩, ⟨Try.func24, by kernel_rfl, by kernel_rfl⟩, ⟨Try.func25, by kernel_rfl, by kernel_rfl⟩, ⟨Try.func26, by kernel_rfl, by kernel_rfl⟩, ⟨Try.func27, by kernel_rfl, by kernel_rfl⟩, ⟨Try.func28, by kernel_rfl, by kernel_rfl⟩, ⟨Try.func29, by kernel_rfl, by kernel_rfl⟩, ⟨Try.func30, by kernel_rfl, by kernel_rfl⟩, ⟨Try.func31, by kernel_rfl, by kernel_rfl⟩, ⟨Try.func32, by kernel_rfl, by kernel_rfl⟩, ⟨Try.func33, by kernel_rfl, by kernel_rfl⟩, ⟨Try.func34, by kernel_rfl, by kernel_rfl⟩, ⟨Try.func35, by kernel_rfl, by kernel_rfl⟩, ⟨Try.func36, by kernel_rfl, by kernel_rfl⟩, ⟨Try.func37, by kernel_rfl, by kernel_rfl⟩, ⟨Try.func38, by kernel_rfl, by kernel_rfl⟩, ⟨Try.func39, by kernel_rfl, by kernel_rfl⟩, ⟨Try.func40, by kernel_rfl, by kernel_rfl⟩, ⟨Try.func41, by kernel_rfl, by kernel_rfl⟩, ⟨Try.func42, by kernel_rfl, by kernel_rfl⟩, ⟨Try.func43, by kernel_rfl, by kernel_rfl⟩, ⟨Try.func44, by kernel_rfl, by kernel_rfl⟩, ⟨Try.func45, by kernel_rfl, by kernel_rfl⟩, ⟨Try.func46, by kernel_rfl, by kernel_rfl⟩, ⟨Try.func47, by kernel_rfl, by kernel_rfl⟩, ⟨Try.func48, by kernel_rfl, by kernel_rfl⟩, ⟨Try.func49, by kernel_rfl, by kernel_rfl⟩, ⟨Try.func50, by kernel_rfl, by kernel_rfl⟩, ⟨Try.func51, by kernel_rfl, by kernel_rfl⟩, ⟨Try.func52, by kernel_rfl, by kernel_rfl⟩, ⟨Try.func53, by kernel_rfl, by kernel_rfl⟩, ⟨Try.func54, by kernel_rfl, by kernel_rfl⟩, ⟨Try.func55, by kernel_rfl, by kernel_rfl⟩, ⟨Try.func56, by kernel_rfl, by kernel_rfl⟩, ⟨Try.func57, by kernel_rfl, by kernel_rfl⟩, ⟨Try.func58, by kernel_rfl, by kernel_rfl⟩, ⟨Try.func59, by kernel_rfl, by kernel_rfl⟩, ⟨Try.func60, by kernel_rfl, by kernel_rfl⟩, ⟨Try.func61, by kernel_rfl, by kernel_rfl⟩, ⟨Try.func62, by kernel_rfl, by kernel_rfl⟩, ⟨Try.func63, by kernel_rfl, by kernel_rfl⟩, ⟨Try.func64, by kernel_rfl, by kernel_rfl⟩, ⟨Try.func65, by kernel_rfl, by kernel_rfl⟩, ⟨Try.func66, by kernel_rfl, by kernel_rfl⟩, ⟨Try.func67, by kernel_rfl, by kernel_rfl⟩, ⟨Try.func68, by kernel_rfl, by kernel_rfl⟩, ⟨Try.func69, by kernel_rfl, by kernel_rfl⟩, ⟨Try.func70, by kernel_rfl, by kernel_rfl⟩, ⟨Try.func71, by kernel_rfl, by kernel_rfl⟩, ⟨Try.func72, by kernel_rfl, by kernel_rfl⟩, ⟨Try.func73, by kernel_rfl, by kernel_rfl⟩, ⟨Try.func74, by kernel_rfl, by kernel_rfl⟩, ⟨Try.func75, by kernel_rfl, by kernel_rfl⟩, ⟨Try.func76, by kernel_rfl, by kernel_rfl⟩, ⟨Try.func77, by kernel_rfl, by kernel_rfl⟩, ⟨Try.func78, by kernel_rfl, by kernel_rfl⟩, ⟨Try.func79, by kernel_rfl, by kernel_rfl⟩, ⟨Try.func80, by kernel_rfl, by kernel_rfl⟩, ⟨Try.func81, by kernel_rfl, by kernel_rfl⟩, ⟨Try.func82, by kernel_rfl, by kernel_rfl⟩, ⟨Try.func83, by kernel_rfl, by kernel_rfl⟩, ⟨Try.func84, by kernel_rfl, by kernel_rfl⟩, ⟨Try.func85, by kernel_rfl, by kernel_rfl⟩, ⟨Try.func86, by kernel_rfl, by kernel_rfl⟩, ⟨Try.func87, by kernel_rfl, by kernel_rfl⟩, ⟨Try.func88, by kernel_rfl, by kernel_rfl⟩, ⟨Try.func89, by kernel_rfl, by kernel_rfl⟩, ⟨Try.func90, by kernel_rfl, by kernel_rfl⟩, ⟨Try.func91, by kernel_rfl, by kernel_rfl⟩, ⟨Try.func92, by kernel_rfl, by kernel_rfl⟩, ⟨Try.func93, by kernel_rfl, by kernel_rfl⟩, ⟨Try.func94, by kernel_rfl, by kernel_rfl⟩, trivial⟩
def ovTab : List (Nat × Sig) := [(5, ⟨[[.F]]⟩), (13, ⟨[[.F]]⟩), (14, ⟨[[.O [], .O [], .O []], [.R]]⟩), (15, ⟨[[.F], [.R]]⟩), (16, ⟨[[.O [], .O [], .O []]]⟩), (18, ⟨[[.R, .R, .R, .O [.F, .O [.F, .F, .F], .F, .O [.F]], .O [.F, .F], .R], [.R]]⟩), (21, ⟨[[.R, .R, .R, .O [.F, .F, .F, .F], .O [.F, .F], .R], [.R]]⟩), (23, ⟨[[.O []]]⟩), (24, ⟨[[.F]]⟩), (25, ⟨[[.O []]]⟩), (32, ⟨[[.O [], .O [], .O []], [.R]]⟩), (33, ⟨[[.O [], .O [], .O []], [.R]]⟩), (34, ⟨[[.O [], .O [], .O []], [.R]]⟩), (35, ⟨[[.O [], .O [], .O []]]⟩), (36, ⟨[[.O [], .O [], .O []]]⟩), (37, ⟨[[.O [], .O [], .O []]]⟩), (57, ⟨[[.R, .R, .R, .O [.F, .F, .F, .F], .O [.F, .F], .R], [.R], [.R], [.R]]⟩), (58, ⟨[[.O [], .O [], .O []], [.R]]⟩), (59, ⟨[[.R, .R, .R, .O [.F, .F, .F, .F], .O [.F, .F], .R], [.R]]⟩), (60, ⟨[[.O [], .O [], .O []]]⟩), (62, ⟨[[.O [], .O [], .O []]]⟩), (63, ⟨[[.O [], .O [], .O []], [.R]]⟩), (80, ⟨[[.F], [.R]]⟩)]
def fzTab : List (Nat × Nat) := [(14, 14), (14, 20), (14, 26), (14, 36), (14, 44), (32, 10), (36, 5), (36, 14), (37, 6), (56, 7), (62, 4)]
def msTab : List (Nat × Nat × List M) := [(6, 5, [.F, .F, .F, .O [.F, .F, .F], .F]), (7, 16, [.F, .F, .F, .F, .F]), (18, 4, [.F, .F, .F, .O [.F, .F, .F], .F]), (18, 46, [.F, .O [.F, .F, .F], .F, .O [.F]]), (18, 7, [.F, .F, .F, .O [.F, .F, .F], .F]), (18, 67, [.F, .F, .F, .O [.F, .F, .F], .F]), (19, 12, [.F, .F, .F, .F]), (19, 38, [.F, .F, .F, .F]), (21, 25, [.F, .F, .F, .F, .F]), (21, 53, [.F, .F, .F, .F]), (48, 8, [.F, .F, .F, .F, .F]), (48, 45, [.F, .F, .F, .F, .F]), (59, 68, [.F, .F, .F, .F])]
def castTab : List (Nat × Nat × List M) := []
def boxTab : List (Nat × Nat × List M) := [(3, 3, [.F, .F, .F, .O [.F, .F, .F, .O [.F]], .O [.F, .F], .F]), (3, 5, [.F, .F, .F, .O [.F, .F, .F, .O [.F]], .O [.F, .F], .F]), (3, 8, [.F, .F, .F, .O [.F, .F, .F, .O [.F]], .O [.F, .F], .F]), (5, 2, [.F, .F, .F, .O [.F, .F, .F, .F], .O [.F, .F], .F]), (6, 4, [.F, .F, .F, .O [.F, .O [.F, .F, .F], .F, .O [.F]], .O [.F, .F], .F]), (6, 7, [.F, .F, .F, .O [.F, .O [.F, .F, .F], .F, .O [.F]], .O [.F, .F], .F]), (7, 4, [.F, .F, .F, .O [.F, .F, .F, .F], .O [.F, .F], .F]), (7, 7, [.F, .F, .F, .O [.F, .F, .F, .F], .O [.F, .F], .F]), (9, 6, [.F, .O [.F, .F, .F], .F, .O [.F]]), (13, 30, [.O [.F], .F, .F]), (14, 4, [.F, .F, .F, .O [.F, .F, .F, .F], .O [.F, .F], .F]), (14, 5, [.F, .F, .F, .O [.F, .F, .F, .F], .O [.F, .F], .F]), (17, 1, [.F, .F, .F, .O [.F, .O [.F, .F, .F], .F, .O [.F]], .O [.F, .F], .F]), (17, 2, [.F, .F, .F, .O [.F, .O [.F, .F, .F], .F, .O [.F]], .O [.F, .F], .F]), (17, 3, [.F, .F, .F, .O [.F, .O [.F, .F, .F], .F, .O [.F]], .O [.F, .F], .F]), (17, 5, [.F, .O [.F, .F, .F], .F, .O [.F]]), (19, 2, [.F, .F, .F, .O [.F, .F, .F, .F], .O [.F, .F], .F]), (19, 3, [.F, .F, .F, .O [.F, .F, .F, .F], .O [.F, .F], .F]), (19, 5, [.F, .O [.F, .F, .F], .F, .O [.F]]), (21, 38, [.F, .O [.F, .F, .F], .F, .O [.F]]), (21, 6, [.F, .O [.F, .F, .F], .F, .O [.F]]), (32, 4, [.F, .F, .F, .O [.F, .F, .F, .F], .O [.F, .F], .F]), (32, 5, [.F, .F, .F, .O [.F, .F, .F, .F], .O [.F, .F], .F]), (32, 7, [.F, .O [.F, .F, .F], .F, .O [.F]]), (42, 8, [.F, .F, .F, .O [.F, .F, .F], .F]), (42, 18, [.F, .F, .F, .O [.F, .F, .F], .F]), (46, 5, [.F, .O [.F, .F, .F], .F, .O [.F]]), (55, 2, [.F, .F, .F, .O [.F, .F, .F, .F], .O [.F, .F], .F]), (55, 6, [.F, .F, .F, .O [.F, .F, .F, .F], .O [.F, .F], .F]), (55, 8, [.F, .F, .F, .O [.F, .F, .F, .F], .O [.F, .F], .F])]
def canTab : List (Nat × Nat × List M) := [(5, 0, [.F, .F, .F, .O [.F, .F, .F, .F], .O [.F, .F], .F]), (5, 1, [.O [.F, .F, .F]]), (6, 0, [.F, .F, .F, .O [.F, .O [.F, .F, .F], .F, .O [.F]], .O [.F, .F], .F]), (6, 1, [.O [.F, .F, .F, .O [.F, .F, .F], .F]]), (7, 0, [.F, .F, .F, .O [.F, .F, .F, .F], .O [.F, .F], .F]), (7, 1, [.O [.F, .F, .F, .F, .F]]), (8, 0, [.O [.F]]), (11, 0, [.O [.F, .F, .F]]), (13, 0, [.O [.F], .F, .F]), (14, 0, [.F, .F, .F, .O [.F, .F, .F, .F], .O [.F, .F], .F]), (16, 0, [.O [.F, .F, .F]]), (17, 0, [.F, .F, .F, .O [.F, .O [.F, .F, .F], .F, .O [.F]], .O [.F, .F], .F]), (18, 0, [.O [.F, .F, .F, .O [.F, .F, .F], .F]]), (18, 1000, [.F, .F, .F, .O [.F, .O [.F, .F, .F], .F, .O [.F]], .O [.F, .F], .F]), (19, 0, [.F, .F, .F, .O [.F, .F, .F, .F], .O [.F, .F], .F]), (21, 0, [.O [.F, .F, .F, .F, .F]]), (21, 1000, [.F, .F, .F, .O [.F, .F, .F, .F], .O [.F, .F], .F]), (24, 0, [.O [.F]]), (25, 0, [.O [.F]]), (32, 0, [.F, .F, .F, .O [.F, .F, .F, .F], .O [.F, .F], .F]), (35, 0, [.O [.F, .F, .F]]), (38, 0, [.O [.F, .F, .F]]), (39, 0, [.O [.F]]), (40, 0, [.O [.F, .F]]), (42, 0, [.F, .F, .F, .O [.F, .F, .F], .F]), (43, 0, [.O [.F, .F, .F]]), (48, 0, [.O [.F, .F, .F, .F, .F]]), (55, 0, [.F, .F, .F, .O [.F, .F, .F, .F], .O [.F, .F], .F]), (56, 0, [.O [.F]]), (57, 1000, [.F, .F, .F, .O [.F, .F, .F, .F], .O [.F, .F], .F]), (59, 1000, [.F, .F, .F, .O [.F, .F, .F, .F], .O [.F, .F], .F]), (61, 0, [.O [.F, .F, .F]]), (67, 0, [.O [.F, .F, .F]])]
def cutTab : List (Nat × Nat × Nat) := [(16, 42, 1), (59, 45, 1)]
def rgTab : List (Nat × Nat × List (Nat × Nat)) := []
def retTab : List (Nat) := [80]
def prims : FuncId → Option (List Arg → R3 Ret) := fun f => cond (Nat.beq f 23) (some primSort) <| cond (Nat.beq f 25) (some primCompact) <| cond (Nat.beq f 38) (some (primClone [.sc (.int .i64), .sc (.str), .sc (.str)])) <| cond (Nat.beq f 39) (some (primClone [.sc (.int .i64)])) <| cond (Nat.beq f 40) (some (primClone [.sc (.int .i64), .sc (.bool)])) <| none

def look3 {α : Type} (d : α) (f x : Nat) : List (Nat × Nat × α) → α
  | [] => d
  | (a, b, c) :: r => cond (Nat.beq f a && Nat.beq x b) c (look3 d f x r)
def CX : Ctx where
  ty := tabFn tyTab
  fn := fun f => lookF f fnTab
  sig := sigTab tyTab fnTab ovTab
  own := fun f d => !(fzTab.any fun x => Nat.beq x.1 f && Nat.beq x.2 d)
  ms := fun f d => look3 [] f d msTab
  cut := fun f d => look3 0 f d cutTab
  cast := fun f d => look3 [] f d castTab
  box := fun f d => look3 [] f d boxTab
  rg := fun f d => look3 [] f d rgTab
  ret := fun f => retTab.any (Nat.beq f)
  can := fun f q => look3 [] f q canTab
end
end Go.Proofs.Ytajahiglgcogeaa

