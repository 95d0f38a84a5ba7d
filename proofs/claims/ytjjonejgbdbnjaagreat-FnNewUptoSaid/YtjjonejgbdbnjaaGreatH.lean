/- A part of the proof: texts EPrim6, NS2, NS3, WH: see the last part's opening words. -/
import Derived.Test.YtjjonejgbdbnjaaGreatE3
import Derived.Shelf.SlicesE.Clone
import Derived.Test.YtjjonejgbdbnjaaGreatProg
import Derived.StillTailTactics
import Derived.Maps.OwnOps
import Derived.Maps.OwnSet
import Derived.Maps.Views
set_option linter.unusedVariables false
set_option linter.unusedSimpArgs false
set_option linter.unnecessarySimpa false
namespace Go.Proofs
open Go Go.Shelf Go.RowKit Go.Lib
variable {P : Program} {ρ : Ren}
set_option maxHeartbeats 2000000 in
set_option maxRecDepth 100000 in
/-- slices.Clone of no rows, wherever they lie -/
theorem clone_zero (L : SlLaysE0.n41 P ρ) (i0 : TypeInfo) (z : Value) (size bytes : Nat) (hi : P.info? (ρ.t 23) = some i0) (hz0 : i0.zero = some z) (hz1 : i0.size = size) (hz2 : i0.bytes = bytes) (hzs : z.cells.size = size) (hsz : 0 < size)
    (z23 : ∀ w, (Go.sizeOf (ρ.t 23)).run P w = .ok size w) (ad : Addr) (c : Nat) (w : World) :
    Calls P (ρ.f 41) #[.slice (some ad) 0 c] w fun e w' => ∃ v', e = .returned v' ∧ w'.ownsRow w.heap.size (ρ.t 23) size v' 0 [] ∧ Below w.heap.size w w' := by
  have mixed := L.mixed; have t4 := L.t4; have a4 := L.a4; have z4 := L.z4; have v4 := L.v4; have t22 := L.t22; have a22 := L.a22; have z22 := L.z22; have v22 := L.v22
  have q22 : ∀ (w : World) (a : Option Addr) (n c n' c' : Nat), (binOp .eql (ρ.t 22) (.slice a n c) (.slice none n' c')).run P w = .ok (.bool a.isNone) w := fun w a n c n' c' => Lib.run_eql_slice_nil w _ _ a n c n' c' L.t22
  have u22 : ∀ w, Sem.run P (underlying (ρ.t 22)) w = .ok (TypeDesc.slice (ρ.t 23)) w := run_underlying t22
  obtain ⟨_, _, FG⟩ := L.f41
  go_enter FG, SlBodyN.n41_ntmps ρ
  go_wp2_with (at_builtin; refine wpList_append_own _ rfl _ _ (ρ.t 22) rfl w.heap.size (ρ.t 23) i0 z size bytes t22 hi hz0 hz1 hz2 hzs hsz _ _ _ rfl (World.ownsRow_made w #[] 0 (Nat.le_refl _) (Nat.zero_le _) (by simp)) ad 0 c [] rfl ?qc1 ?qc2 ?qc3 ?qc4 ?qc5 ?qc6 ?_)
  case qc1 => simp
  case qc2 => intro j u hj; simp at hj
  case qc3 => intro u hu; cases hu
  case qc4 => simp
  case qc5 => simp
  case qc6 => simp
  intro v' w1 hown hgrow hnil
  go_wp2
  go_ret
  refine ⟨v', rfl, by simpa using hown, ?_⟩
  exact ((Below.refl _ w).alloc (Nat.le_refl _) _).grown hgrow (by simp) (by intro k hk; simp [Value.ownBlock] at hk; omega)
end Go.Proofs
namespace Go.E
open Go Go.Shelf Go.Proofs Go.RowKit
section
variable {g0 : Gh} {I A : Foot} {w w' : World} {vs : Array Value} {es : List LT} {ms : List M} {rows : List (List T)}
/-- a contract that hands back a new chunk -/
theorem ret_new {args : List Arg} {h : Value} {F : Foot} (hp : Pre g0 I A args w vs) (hb : Below w.heap.size w w') (hrow : RowOwn w' I es ms rows h F) (hF : ∀ b o, F b o → w.heap.size ≤ b) (hs : Single h) :
    RetR g0 I A args w ⟨[.one (.own [7000000] es ms rows)], [[none]], []⟩ (g0.set [7000000] h F) I w' h := by
  have hno : ∀ {i j : Nat} {x : List LT × List M × List (List T)}, ownOf ⟨[.one (.own [7000000] es ms rows)], [[none]], []⟩ i j ≠ some x := by
    intro i j x
    match i, j with
    | 0, 0 => simp [ownOf]
    | 0, j + 1 => simp [ownOf]
    | i + 1, j => simp [ownOf]
  have hk1 := keeps_below hb (fun _ _ => True)
  refine ⟨⟨[h], rfl, ⟨hs, ?_⟩, trivial⟩, fun i j es1 ms1 rows1 h => absurd h hno, fun i ls h => by simp [bxOf] at h, by simp [retKeys, keysOfR], fun k hk i j hij => ?_, fun k k' h h' hne => absurd ((take1_out h).trans (take1_out h').symm) hne, fun k h => ?_, fun k h => ?_, fun _ _ h => h, fun _ _ h _ => h, fun b o hi => ?_, hk1.weaken fun _ _ _ => trivial⟩
  · exact ⟨by rw [Gh.set_h], by rw [Gh.set_F]; exact hrow⟩
  · rcases hij with ⟨y, h⟩ | ⟨-, ls, h⟩
    · exact absurd h hno
    · simp [bxOf] at h
  · rw [take1_out h, Gh.set_F]
    intro b o hf hi
    have := cell_lt (hp.iwf b o hi)
    have := hF b o hf
    omega
  · rw [take1_out h, Gh.set_F]
    intro b o hf hi
    have := cell_lt (hp.awf b o hi)
    have := hF b o hf
    omega
  · obtain ⟨v, hv⟩ := hp.iwf b o hi
    exact ⟨v, (hk1.cell trivial ⟨v, hv⟩).trans hv⟩
/-- rows that a call has made -/
theorem own_made {S : Foot} {el : TypeId} {v : Value} {news : List Value} {base : Nat} (hes : es ≠ []) (hm : noO ms) (hmax : rows.length ≤ maxCells) (hr : RowsV w' I es rows news) (ho : w'.ownsRow base el es.length v rows.length news) :
    ∃ F, RowOwn w' I es ms rows v F ∧ (∀ b o, F b o → base ≤ b) ∧ Single v := by
  obtain ⟨hl, ⟨rfl, h0⟩ | ⟨g, cap, cur, rfl, hb, hg, hc, -, hsz, ht⟩⟩ := ho
  · have : rows = [] := List.length_eq_zero_iff.1 h0
    subst this
    exact ⟨fun _ _ => False, RowOwn.nil hes fun _ _ h => h, fun _ _ h => h.elim, ⟨fun _ h => (nomatch h), fun _ h => (nomatch h)⟩⟩
  · refine ⟨fun b o => b = g ∧ o < cur.size, RowOwn.mk' (bs := []) hes hmax hc hg hsz (fun o ho => by omega) ?_ ⟨fun h => (nomatch h), trivial⟩ (fun b' o' => ⟨.inl, fun h => h.elim (fun h => h) fun h => (nomatch h.1)⟩), fun b o h => h.1 ▸ hb, ⟨fun _ h => (nomatch h), fun _ h => (nomatch h)⟩⟩
    refine RowsOf.cells (hr.toM hm) ?_
    rw [← hl, List.take_length, hl]; exact ht
end
def primClone (es : List LT) : List Arg → R3 Ret
  | [.one (.dz es' rows)] => cond (LT.beqs es es' && flatLs es && Nat.ble es.length 1000) (cond (decide (rows.length * es.length ≤ maxRow)) (.ok ⟨[.one (.own [7000000] es (es.map fun _ => .F) rows)], [[none]], []⟩) .bad) .bad
  | [.one (.fz es' rows)] => cond (LT.beqs es es' && flatLs es && Nat.ble es.length 1000) (cond (decide (rows.length * es.length ≤ maxRow)) (.ok ⟨[.one (.own [7000000] es (es.map fun _ => .F) rows)], [[none]], []⟩) .bad) .bad
  | _ => .bad
theorem zeroVs_len : ∀ {lts : List LT} {vs : List Value}, zeroVs lts vs → vs.length = lts.length
  | [], [], _ => rfl
  | _ :: _, _ :: _, h => by simp [zeroVs_len h.2]
  | [], _ :: _, h => h.elim
  | _ :: _, [], h => h.elim
theorem primClone_ok {Γ : Ctx} {P : Program} {ρ : Shelf.Ren} (hΓ : CtxOk Γ P) (L : SlLaysE0.n41 P ρ) {te : TI} (hte : Γ.ty (ρ.t 23) = some te) (hne : te.lts ≠ []) {args : List Arg} (h : primClone te.lts args ≠ .bad) : FnOk P (ρ.f 41) args (primClone te.lts args) := by
  have htok := hΓ.ty _ _ hte
  obtain ⟨i0, hi1, hi2, hi3, hi4, hi5, z, hz, hzs⟩ := htok.info
  have hzl := zeroVs_len hzs
  have key : ∀ (S : Foot) (arg : Arg) (rows : List (List T)) (g0 : Gh) (I A : Foot) (w : World) (vs : Array Value), Pre g0 I A [arg] w vs → (∀ v, ArgR g0 w I 0 arg v → LeafR w S (.sl te.lts) v (.l rows)) →
      flatLs te.lts = true → te.lts.length ≤ 1000 → rows.length * te.lts.length ≤ maxRow →
      Calls P (ρ.f 41) vs w fun
        | .returned v, w' => ∃ ret g' I', R3.ok (⟨[.one (.own [7000000] te.lts (te.lts.map fun _ => .F) rows)], [[none]], []⟩ : Ret) = .ok ret ∧ RetR g0 I A [arg] w ret g' I' w' v
        | .panicked _, _ => False
        | .outgrown, _ => False := by
    intro S arg rows g0 I A w vs hp hv hf hle hmr
    obtain ⟨v, rfl, hav⟩ : ∃ v, vs = #[v] ∧ ArgR g0 w I 0 arg v := by
      have hrel := hp.rel
      match hl : vs.toList, hrel with
      | [v], hrel => exact ⟨v, Array.toList_inj.1 (by simpa using hl), hrel.1⟩
      | [], hrel => exact hrel.elim
      | _ :: _ :: _, hrel => exact hrel.2.elim
    obtain ⟨aa, cap, news, rfl, hcap, hmax, hnl, hrv, hplace⟩ := leaf_cells (hv v hav)
    have hone : ∀ u ∈ news, u.oneCell' = true := fun u hu => (hrv.single hnl u hu).one
    have hpos : 0 < te.lts.length := List.length_pos_iff.2 hne
    have fin : ∀ (v' : Value) (w' : World), w'.ownsRow w.heap.size (ρ.t 23) te.lts.length v' rows.length news → Below w.heap.size w w' →
        ∃ ret g' I', R3.ok (⟨[.one (.own [7000000] te.lts (te.lts.map fun _ => .F) rows)], [[none]], []⟩ : Ret) = .ok ret ∧ RetR g0 I A [arg] w ret g' I' w' v' := by
      intro v' w' ho hb
      obtain ⟨F, h1, h2, h3⟩ := own_made (I := I) (S := S) hne (noO_F te.lts) hmax (hrv.flat hf) ho
      exact ⟨_, _, _, rfl, ret_new hp hb h1 h2 h3⟩
    cases aa with
    | none =>
      refine (AnyE.slices_Clone_nil L rows.length cap w).mono fun e w' ⟨he, hw⟩ => ?_
      subst he hw
      have hr0 : rows = [] := by
        rcases hplace with h | ⟨b, o, h, -⟩
        · exact h
        · cases h
      subst hr0
      exact fin _ _ ⟨by simpa using hnl, .inl ⟨rfl, rfl⟩⟩ (Below.refl _ _)
    | some ad =>
      rcases hplace with hr0 | ⟨b, o, h, hc, -⟩
      · subst hr0
        have hn0 : news = [] := List.length_eq_zero_iff.1 (by simpa using hnl)
        subst hn0
        refine (clone_zero L i0 z te.lts.length i0.bytes hi1 hz hi2 rfl (by rw [← Array.length_toList]; exact hzl) hpos (fun w => run_sizeOf htok) ad cap w).mono fun e w' ⟨v', he, ho, hb⟩ => ?_
        subst he
        exact fin v' w' ho hb
      · cases h
        refine (AnyE.slices_Clone L i0 z te.lts.length i0.bytes hi1 hz hi2 rfl (by rw [← Array.length_toList]; exact hzl) hpos (fun w => run_sizeOf htok) b o rows.length cap news w hnl (by unfold maxLen; unfold maxCells at hmax; omega) ?_ ?_ hone).mono fun e w' ⟨v', he, ho, _, hb⟩ => ?_
        · have h1 : rows.length * i0.bytes ≤ rows.length * (24 * te.lts.length) := Nat.mul_le_mul_left _ hi5
          have h2 : rows.length * (24 * te.lts.length) = 24 * (rows.length * te.lts.length) := by rw [Nat.mul_left_comm]
          unfold maxRow at hmr
          omega
        · intro j u hu
          obtain ⟨hj, rfl⟩ := List.getElem?_eq_some_iff.1 hu
          exact hc.get j hj
        · subst he
          exact fin v' w' ho hb
  unfold primClone at h ⊢
  split at h
  · rename_i es' rows
    cases hc : (LT.beqs te.lts es' && flatLs te.lts && Nat.ble te.lts.length 1000) with
    | false => rw [hc] at h; exact absurd rfl h
    | true =>
      cases hm : decide (rows.length * te.lts.length ≤ maxRow) with
      | false => rw [hc, hm] at h; exact absurd rfl h
      | true =>
        simp only [Bool.and_eq_true] at hc
        have := LT.beqs_eq hc.1.1
        subst this
        intro g0 I A w vs hp
        exact key (ID g0 I) _ rows g0 I A w vs hp (fun v hv => hv) hc.1.2 (Nat.le_of_ble_eq_true hc.2) (of_decide_eq_true hm)
  · rename_i es' rows
    cases hc : (LT.beqs te.lts es' && flatLs te.lts && Nat.ble te.lts.length 1000) with
    | false => rw [hc] at h; exact absurd rfl h
    | true =>
      cases hm : decide (rows.length * te.lts.length ≤ maxRow) with
      | false => rw [hc, hm] at h; exact absurd rfl h
      | true =>
        simp only [Bool.and_eq_true] at hc
        have := LT.beqs_eq hc.1.1
        subst this
        intro g0 I A w vs hp
        exact key I _ rows g0 I A w vs hp (fun v hv => hv) hc.1.2 (Nat.le_of_ble_eq_true hc.2) (of_decide_eq_true hm)
  · exact absurd rfl h
end Go.E

namespace Go.Proofs.YtjjonejgbdbnjaaGreat
open Go Go.E Go.Proofs Go.RowKit Go.Maps
theorem nlaw : Keyed Tryz.prog 3 := int_keyed Tryz.underlying3
theorem nzero (w : World) : (zeroValue 3).run Tryz.prog w = .ok (.int .i64 0) w := by kernel_rfl
def MapIs {H : Type} (D : DataW H) (S : List Int) : Prop := IsMap D ∧ ∀ x : Int, (Lit.int .i64 x).wf = true → D.atKey (.int .i64 x) (.lit (.int .i64 0)) = .lit (.int .i64 (if x ∈ S then 1 else 0))
theorem mapIs_nil {H : Type} : MapIs (H := H) (.map []) [] := ⟨isMap_empty, fun x _ => by simp [DataW.atKey]⟩
theorem mapIs_put {H : Type} {D : DataW H} {S : List Int} (h : MapIs D S) (x : Int) : MapIs (D.put (.int .i64 x) (.lit (.int .i64 1))) (S ++ [x]) := by
  refine ⟨h.1.put _ _, fun y hy => ?_⟩
  by_cases e : y = x
  · subst e
    rw [atKey_put_same h.1 (by trivial)]
    simp
  · rw [atKey_put_other (by simpa using e), h.2 y hy]
    simp [e]
def nsS (k : Int) (p : List (Int × Int)) : List Int := (p.filter fun x => x.1 == k).map (·.2)
def nsClean (p : List (Int × Int)) : Prop := ∀ x ∈ nsS 2 p, x ∉ nsS 3 p
def NSr (w0 wr : World) (b1 b2 : Nat) (p : List (Int × Int)) : Prop :=
  ∃ (D1 D2 : DataW Unit), wr.ownsMap Tryz.prog 3 (plainElem Tryz.prog 3) b1 p.length D1 ∧ wr.ownsMap Tryz.prog 3 (plainElem Tryz.prog 3) b2 p.length D2 ∧ MapIs D1 (nsS 2 p) ∧ MapIs D2 (nsS 3 p) ∧ nsClean p ∧ Below w0.heap.size w0 wr
def nsFlat (recs : Nat → List (Int × Int)) (i : Nat) : List (Int × Int) := (List.range i).flatMap recs
theorem nsFlat_succ (recs : Nat → List (Int × Int)) (i : Nat) : nsFlat recs (i + 1) = nsFlat recs i ++ recs i := by simp [nsFlat, List.range_succ]
theorem ns_look {W : World} {b n : Nat} {D : DataW Unit} {X : Int} (hX : (Lit.int .i64 X).wf = true) (h : W.ownsMap Tryz.prog 3 (plainElem Tryz.prog 3) b n D) {S : List Int} (hS : MapIs D S) {v : Int} (hv : (if X ∈ S then 1 else 0) = v) : (Instr.lookup 49 (.map (some b)) (.int .i64 X) false).run Tryz.prog W = .ok (.int .i64 v) W := by
  obtain ⟨c, h1, h2, h3⟩ := h.lookup_int nlaw Tryz.underlying49 Tryz.underlying3 (nzero _) (keyOf_int_mk Tryz.underlying3 hX)
  have := hS.2 X hX
  rw [h2] at this
  simp only [DataW.lit.injEq, Lit.int.injEq, true_and] at this
  rw [← hv, ← this]
  exact h1
theorem ns_cell {wr w1 : World} {b1 t : Nat} {K X : Int} {v : Value} (hg : (wr.alloc (Obj.cells #[Value.int IntKind.i64 K, Value.int IntKind.i64 X, v] t)).grownBy w1 (some b1)) (hne : b1 < wr.heap.size) : w1.cell? ⟨wr.heap.size, 1, none⟩ = some (.int .i64 X) := by
  have h1 : w1.heap[wr.heap.size]? = (wr.alloc (Obj.cells #[Value.int IntKind.i64 K, Value.int IntKind.i64 X, v] t)).heap[wr.heap.size]? := hg.block wr.heap.size (by simp) (by simp; omega)
  have h2 : (wr.alloc (Obj.cells #[Value.int IntKind.i64 K, Value.int IntKind.i64 X, v] t)).heap[wr.heap.size]? = some (Obj.cells #[Value.int IntKind.i64 K, Value.int IntKind.i64 X, v] t) := by
    show (wr.heap.push _)[wr.heap.size]? = _
    simp
  unfold World.cell?
  simp only
  rw [h1, h2]
  rfl
def nsB (p : List (Int × Int)) : Bool := (nsS 2 p).all fun x => !(nsS 3 p).contains x
theorem nsB_t {p : List (Int × Int)} (h : nsClean p) : nsB p = true := by
  unfold nsB
  rw [List.all_eq_true]
  intro x hx
  have := h x hx
  simpa using this
theorem nsS_app (k : Int) (a b : List (Int × Int)) : nsS k (a ++ b) = nsS k a ++ nsS k b := by simp [nsS]
theorem nsB_f {p q : List (Int × Int)} {x : Int} (h2 : x ∈ nsS 2 p) (h3 : x ∈ nsS 3 p) : nsB (p ++ q) = false := by
  unfold nsB
  rw [List.all_eq_false]
  refine ⟨x, by rw [nsS_app]; simp [h2], ?_⟩
  rw [nsS_app]
  simp [h3]
theorem nsS_one (k : Int) (K X : Int) : nsS k [(K, X)] = if K = k then [X] else [] := by
  unfold nsS
  by_cases h : K = k <;> simp [h]
theorem nsFlat_pre (recs : Nat → List (Int × Int)) {i n : Nat} (h : i < n) (j : Nat) : ∃ q, nsFlat recs n = (nsFlat recs i ++ (recs i).take j) ++ q := by
  obtain ⟨k, rfl⟩ : ∃ k, n = i + 1 + k := ⟨n - (i + 1), by omega⟩
  refine ⟨(recs i).drop j ++ (List.range' (i + 1) k).flatMap recs, ?_⟩
  have e : List.range (i + 1 + k) = List.range (i + 1) ++ List.range' (i + 1) k := by
    rw [List.range_eq_range', List.range_eq_range', ← List.range'_append_1, Nat.zero_add]
  unfold nsFlat
  rw [e, List.flatMap_append, List.range_succ, List.flatMap_append]
  simp only [List.flatMap_cons, List.flatMap_nil, List.append_nil, List.append_assoc]
  rw [← List.append_assoc (List.take j (recs i)), List.take_append_drop]
theorem with_lookup {ops : Array Oper} {rest : List Oper} {a : Act} {Q : Exit → Act → World → Prop} {W : World} {b n : Nat} {D : DataW Unit} {X : Int} (hX : (Lit.int .i64 X).wf = true) (h : W.ownsMap Tryz.prog 3 (plainElem Tryz.prog 3) b n D) {S : List Int} (hS : MapIs D S)
    (hK : (Instr.lookup 49 (.map (some b)) (.int .i64 X) false).run Tryz.prog W = .ok (.int .i64 (if X ∈ S then 1 else 0)) W → wpList Tryz.prog ops Q rest a W) : wpList Tryz.prog ops Q rest a W := by
  obtain ⟨c, h1, h2, h3⟩ := h.lookup_int nlaw Tryz.underlying49 Tryz.underlying3 (nzero _) (keyOf_int_mk Tryz.underlying3 hX)
  have := hS.2 X hX
  rw [h2] at this
  simp only [DataW.lit.injEq, Lit.int.injEq, true_and] at this
  subst this
  exact hK h1
def Cells3 (w : World) (lb lo j : Nat) (r : Int × Int) (v : Value) : Prop := w.cell? ⟨lb, lo + j * 3, none⟩ = some (.int .i64 r.1) ∧ w.cell? ⟨lb, lo + j * 3 + 1, none⟩ = some (.int .i64 r.2) ∧ w.cell? ⟨lb, lo + j * 3 + 2, none⟩ = some v
def ShardAt (w : World) (b k : Nat) (l : List (Int × Int)) : Prop := ∃ (C0 C2 : Int) (LA : Option Addr) (LC : Nat) (L3 : Option Addr) (N3 K3 : Nat) (L4 : Option Addr) (N4 K4 : Nat),
  w.cell? ⟨b, k, none⟩ = some (.int .i64 C0) ∧ w.cell? ⟨b, k + 1, none⟩ = some (.slice LA l.length LC) ∧ w.cell? ⟨b, k + 2, none⟩ = some (.int .i64 C2) ∧ w.cell? ⟨b, k + 3, none⟩ = some (.slice L3 N3 K3) ∧ w.cell? ⟨b, k + 4, none⟩ = some (.slice L4 N4 K4) ∧ l.length ≤ 140737488355328 ∧
  ∀ j, j < l.length → (Lit.int .i64 (l.getD j default).2).wf = true ∧ ∃ lb lo VA VN VC, LA = some ⟨lb, lo, none⟩ ∧ lb < w.heap.size ∧ Cells3 w lb lo j (l.getD j default) (.slice VA VN VC)
set_option maxRecDepth 1000000 in
theorem ns_run (aa : Option Addr) (n cap : Nat) (v0 v1 v2 v3 v4 v5 v7 v8 v9 : Value) (recs : Nat → List (Int × Int)) (w : World) (htot : (nsFlat recs n).length ≤ 1099511627776) (hn : n ≤ 140737488355328)
    (hA : Hid (0 < n → ∃ b o, aa = some ⟨b, o, none⟩ ∧ b < w.heap.size ∧ ∀ i, i < n → ShardAt w b (o + i * 5) (recs i))) :
    Calls Tryz.prog 9 #[.agg #[v0, v1, v2, v3, v4, v5, .slice aa n cap, v7, v8, v9]] w fun e w' => e = .returned (.bool (nsB (nsFlat recs n))) ∧ Below w.heap.size w w' := by
  have hmm := @run_makeMap Tryz.prog
  go_enter Tryz.func9, Tryz.ntmps9
  go_wp2
  go_loopw [14] (fun vi wr => ∃ i : Nat, vi = .int .i64 i ∧ i ≤ n ∧ NSr w wr (w.heap.size + 1) (w.heap.size + 2) (nsFlat recs i)) (fun vi _ => n - (intOf vi).toNat)
  case atStart =>
    refine ⟨0, rfl, Nat.zero_le _, .map [], .map [], ?_, ?_, mapIs_nil, mapIs_nil, fun x hx => by simp [nsS, nsFlat] at hx, ?_⟩
    · have := World.ownsMap_made (w.alloc (Obj.cells #[v0, v1, v2, v3, v4, v5, Value.slice aa n cap, v7, v8, v9] 32)) Tryz.prog 3 (plainElem (H := Unit) Tryz.prog 3)
      rw [World.size_alloc] at this
      exact (this.alloc _).mono (Nat.zero_le _)
    · have := World.ownsMap_made ((w.alloc (Obj.cells #[v0, v1, v2, v3, v4, v5, Value.slice aa n cap, v7, v8, v9] 32)).alloc (Obj.map #[] 0)) Tryz.prog 3 (plainElem (H := Unit) Tryz.prog 3)
      rw [World.size_alloc, World.size_alloc] at this
      exact this.mono (Nat.zero_le _)
    · exact (((Below.refl _ w).alloc (Nat.le_refl _) _).alloc (by simp) _).alloc (by simp; omega) _
  case round =>
    obtain ⟨i, rfl, hi, hR⟩ := hrel
    have hR' : Hid (NSr w _ (w.heap.size + 1) (w.heap.size + 2) (nsFlat recs i)) := hR
    obtain ⟨D1, D2, m1, m2, q1, q2, hcl, hb⟩ := hR
    by_cases hlt : i < n
    · obtain ⟨b, o, haa, hbl, hS⟩ := hA.out (by omega)
      obtain ⟨C0, C2, LA, LC, L3, N3, K3, L4, N4, K4, e0, e1, e2, e3, e4, hln, h5⟩ := hS i hlt
      have hcx := fun (k : Nat) (v : Value) (h : w.cell? ⟨b, k, none⟩ = some v) => (hb.cell (p := ⟨b, k, none⟩) hbl).trans h
      have g0 := hcx _ _ e0
      have g1 := hcx _ _ e1
      have g2 := hcx _ _ e2
      have g3 := hcx _ _ e3
      have g4 := hcx _ _ e4
      have h5' : Hid (∀ j, j < (recs i).length → (Lit.int .i64 ((recs i).getD j default).2).wf = true ∧ ∃ lb lo VA VN VC, LA = some ⟨lb, lo, none⟩ ∧ lb < w.heap.size ∧ Cells3 w lb lo j ((recs i).getD j default) (.slice VA VN VC)) := h5
      clear e0 e1 e2 e3 e4 h5 hS
      have hlt' : (i : Int) < (n : Int) := by omega
      clear hcx m1 m2
      go_wp2
      go_loopw [21] (fun vj w2 => ∃ j : Nat, vj = .int .i64 j ∧ j ≤ (recs i).length ∧ NSr w w2 (w.heap.size + 1) (w.heap.size + 2) (nsFlat recs i ++ (recs i).take j)) (fun vj _ => (recs i).length - (intOf vj).toNat)
      case atStart =>
        have hR0 := hR'.out
        obtain ⟨E1, E2, m1, m2, x1, x2, x3, x4⟩ := hR0
        refine ⟨0, rfl, Nat.zero_le _, E1, E2, ?_, ?_, ?_, ?_, ?_, x4.alloc x4.size _⟩
        · simpa using m1.alloc _
        · simpa using m2.alloc _
        · simpa using x1
        · simpa using x2
        · simpa using x3
      case round =>
        obtain ⟨j, rfl, hj, hR2⟩ := hrel
        clear g0 g1 g2 g3 g4 hb q1 q2 hcl
        obtain ⟨D1, D2, m1, m2, q1, q2, hcl, hb⟩ := hR2
        by_cases hjl : j < (recs i).length
        · obtain ⟨hwf, lb, lo, VA, VN, VC, hLA, hlb, c0, c1, c2⟩ := h5'.out j hjl
          have k0 := (hb.cell (p := ⟨lb, lo + j * 3, none⟩) hlb).trans c0
          have k1 := (hb.cell (p := ⟨lb, lo + j * 3 + 1, none⟩) hlb).trans c1
          have k2 := (hb.cell (p := ⟨lb, lo + j * 3 + 2, none⟩) hlb).trans c2
          clear c0 c1 c2
          obtain ⟨r, hr⟩ : ∃ r, r = (recs i).getD j default := ⟨_, rfl⟩
          rw [← hr] at hwf k0 k1
          obtain ⟨K, X⟩ := r
          simp only at hwf k0 k1
          have hjl' : (j : Int) < ((recs i).length : Int) := by omega
          obtain ⟨q, hq⟩ := nsFlat_pre recs hlt (j + 1)
          have hpl : (nsFlat recs i ++ (recs i).take j).length < maxLen := by
            have h9 := congrArg List.length hq
            simp only [List.length_append, List.length_take] at h9 ⊢
            unfold maxLen
            omega
          have htk : (recs i).take (j + 1) = (recs i).take j ++ [(K, X)] := by
            rw [hr, List.take_add_one, List.getElem?_eq_getElem hjl]
            simp [List.getD, hjl]
          rw [htk, ← List.append_assoc] at hq
          obtain ⟨p, hp⟩ : ∃ p, p = nsFlat recs i ++ (recs i).take j := ⟨_, rfl⟩
          rw [← hp] at m1 m2 q1 q2 hcl hq hpl
          have hkey := keyOf_int_mk (P := Tryz.prog) Tryz.underlying3 hwf
          have M1 := m1.alloc (Obj.cells #[Value.int IntKind.i64 K, Value.int IntKind.i64 X, Value.slice VA VN VC] 55)
          have M2 := m2.alloc (Obj.cells #[Value.int IntKind.i64 K, Value.int IntKind.i64 X, Value.slice VA VN VC] 55)
          have hb0 := hb.alloc hb.size (Obj.cells #[Value.int IntKind.i64 K, Value.int IntKind.i64 X, Value.slice VA VN VC] 55)
          have hN : Hid (∀ w2, NSr w w2 (w.heap.size + 1) (w.heap.size + 2) (p ++ [(K, X)]) → NSr w w2 (w.heap.size + 1) (w.heap.size + 2) (nsFlat recs i ++ (recs i).take (j + 1))) := fun w2 h => by rw [htk, ← List.append_assoc, ← hp]; exact h
          by_cases hK2 : K = 2
          · subst hK2
            obtain ⟨w1, hup, M1', hg⟩ := M1.update nlaw Tryz.underlying49 hpl (val := .int .i64 1) hkey (plainElem_int Tryz.underlying3 (by decide))
            have M2' := M2.kept hg (by simp)
            have q1' := mapIs_put q1 X
            have hb1 := hb0.grown hg hb0.size (fun k hk => by simp at hk; omega)
            have L1 := ns_look hwf M1' q1' (v := 1) (by simp)
            have hc1 := ns_cell (X := X) hg (by have := m1.lt; omega)
            clear m1 m2 M1 hb hb0
            by_cases hX3 : X ∈ nsS 3 p
            · have L2 := ns_look hwf M2' q2 (v := 1) (by simp [hX3])
              have hres : nsB (nsFlat recs n) = false := by rw [hq]; exact nsB_f (x := X) (by rw [nsS_app, nsS_one]; simp) (by rw [nsS_app]; simp [hX3])
              have hQ : Hid (nsB (nsFlat recs n) = false) := hres
              have hB : Hid (Below w.heap.size w w1) := hb1
              clear hq hp hpl htk q1 q2 hcl hR' M1' M2' q1' hb1 hres hN
              go_wp2
              go_ret
              exact ⟨by rw [hQ.out]; rfl, hB.out⟩
            · have L2 := ns_look hwf M2' q2 (v := 0) (by simp [hX3])
              have hR3 : Hid (NSr w w1 (w.heap.size + 1) (w.heap.size + 2) (p ++ [(2, X)])) := by
                refine ⟨_, _, by simpa using M1', by simpa using M2'.mono (Nat.le_succ _), ?_, ?_, ?_, hb1⟩
                · rw [nsS_app, nsS_one]; exact q1'
                · rw [nsS_app, nsS_one]; simpa using q2
                · intro x hx
                  rw [nsS_app, nsS_one] at hx
                  rw [nsS_app, nsS_one]
                  simp only [if_pos, List.mem_append, List.mem_singleton] at hx
                  rcases hx with hx | hx
                  · simpa using hcl x hx
                  · rw [hx]; simpa using hX3
              have hjj : Hid (j < (recs i).length) := hjl
              clear hq hp hpl htk q1 q2 hcl hR' M1' M2' q1' hb1
              go_wp2
              go_roundw
              case rel => exact ⟨j + 1, by go_num, hjj.out, hN.out _ hR3.out⟩
              case measure => simp [intOf]; have := hjj.out; omega
          · by_cases hK3 : K = 3
            · subst hK3
              obtain ⟨w1, hup, M2', hg⟩ := M2.update nlaw Tryz.underlying49 hpl (val := .int .i64 1) hkey (plainElem_int Tryz.underlying3 (by decide))
              have M1' := M1.kept hg (by simp)
              have q2' := mapIs_put q2 X
              have hb1 := hb0.grown hg hb0.size (fun k hk => by simp at hk; omega)
              have L2 := ns_look hwf M2' q2' (v := 1) (by simp)
              have hc1 := ns_cell (X := X) hg (by have := m2.lt; omega)
              clear m1 m2 M2 hb hb0
              by_cases hX2 : X ∈ nsS 2 p
              · have L1 := ns_look hwf M1' q1 (v := 1) (by simp [hX2])
                have hres : nsB (nsFlat recs n) = false := by rw [hq]; exact nsB_f (x := X) (by rw [nsS_app]; simp [hX2]) (by rw [nsS_app, nsS_one]; simp)
                have hQ : Hid (nsB (nsFlat recs n) = false) := hres
                have hB : Hid (Below w.heap.size w w1) := hb1
                clear hq hp hpl htk q1 q2 hcl hR' M1' M2' q2' hb1 hres hN
                go_wp2
                go_ret
                exact ⟨by rw [hQ.out]; rfl, hB.out⟩
              · have L1 := ns_look hwf M1' q1 (v := 0) (by simp [hX2])
                have hR3 : Hid (NSr w w1 (w.heap.size + 1) (w.heap.size + 2) (p ++ [(3, X)])) := by
                  refine ⟨_, _, by simpa using M1'.mono (Nat.le_succ _), by simpa using M2', ?_, ?_, ?_, hb1⟩
                  · rw [nsS_app, nsS_one]; simpa using q1
                  · rw [nsS_app, nsS_one]; exact q2'
                  · intro x hx
                    rw [nsS_app, nsS_one] at hx
                    rw [nsS_app, nsS_one]
                    have hx' : x ∈ nsS 2 p := by simpa using hx
                    have h9 := hcl x hx'
                    have h8 : x ≠ X := fun e => hX2 (e ▸ hx')
                    simp [h9, h8]
                have hjj : Hid (j < (recs i).length) := hjl
                clear hq hp hpl htk q1 q2 hcl hR' M1' M2' q2' hb1
                go_wp2
                go_roundw
                case rel => exact ⟨j + 1, by go_num, hjj.out, hN.out _ hR3.out⟩
                case measure => simp [intOf]; have := hjj.out; omega
            · have hK2' : ¬ ((K : Int) = 2) := hK2
              have hK3' : ¬ ((K : Int) = 3) := hK3
              have hR3 : Hid (NSr w (wr.alloc (Obj.cells #[Value.int IntKind.i64 K, Value.int IntKind.i64 X, Value.slice VA VN VC] 55)) (w.heap.size + 1) (w.heap.size + 2) (p ++ [(K, X)])) := by
                refine ⟨D1, D2, by simpa using M1.mono (Nat.le_succ _), by simpa using M2.mono (Nat.le_succ _), ?_, ?_, ?_, hb0⟩
                · rw [nsS_app, nsS_one, if_neg hK2]; simpa using q1
                · rw [nsS_app, nsS_one, if_neg hK3]; simpa using q2
                · intro x hx
                  rw [nsS_app, nsS_one, if_neg hK2] at hx
                  rw [nsS_app, nsS_one, if_neg hK3]
                  simpa using hcl x (by simpa using hx)
              have hjj : Hid (j < (recs i).length) := hjl
              by_cases hX2 : X ∈ nsS 2 p
              · have L1 := ns_look hwf M1 q1 (v := 1) (by simp [hX2])
                have L2 := ns_look hwf M2 q2 (v := 0) (by simp [hcl X hX2])
                clear m1 m2 M1 M2 hb hb0 hq hp hpl htk q1 q2 hcl hR'
                go_wp2
                go_roundw
                case rel => exact ⟨j + 1, by go_num, hjj.out, hN.out _ hR3.out⟩
                case measure => simp [intOf]; have := hjj.out; omega
              · have L1 := ns_look hwf M1 q1 (v := 0) (by simp [hX2])
                clear m1 m2 M1 M2 hb hb0 hq hp hpl htk q1 q2 hcl hR'
                go_wp2
                go_roundw
                case rel => exact ⟨j + 1, by go_num, hjj.out, hN.out _ hR3.out⟩
                case measure => simp [intOf]; have := hjj.out; omega
        · have hjn : j = (recs i).length := by omega
          subst hjn
          have hR4 : Hid (NSr w wr (w.heap.size + 1) (w.heap.size + 2) (nsFlat recs (i + 1))) := by
            refine ⟨D1, D2, ?_, ?_, ?_, ?_, ?_, hb⟩
            · simpa [nsFlat_succ] using m1
            · simpa [nsFlat_succ] using m2
            · simpa [nsFlat_succ] using q1
            · simpa [nsFlat_succ] using q2
            · simpa [nsFlat_succ] using hcl
          have hii : Hid (i < n) := hlt
          clear m1 m2 q1 q2 hcl hb hR'
          go_wp2
          go_roundw
          case rel => exact ⟨i + 1, by go_num, hii.out, hR4.out⟩
          case measure => simp [intOf]; have := hii.out; omega
    · have hin : i = n := by omega
      have hres : Hid (nsB (nsFlat recs n) = true) := by rw [← hin]; exact nsB_t hcl
      have hB : Hid (Below w.heap.size w wr) := hb
      subst hin
      clear m1 m2 q1 q2 hcl hb hR'
      go_wp2
      go_ret
      exact ⟨by rw [hres.out]; rfl, hB.out⟩
end Go.Proofs.YtjjonejgbdbnjaaGreat

namespace Go.Proofs.YtjjonejgbdbnjaaGreat
open Go Go.E Go.Proofs Go.RowKit
def esR : List LT := [.sc (.int .i64), .sc (.int .i64), .sl [.sc (.int .i64), .sc (.str), .sc (.str)]]
def esS : List LT := [.sc (.int .i64), .sl esR, .sc (.int .i64), .sl [.sc (.str), .sc (.str)], .sl esR]
def nsRec (r : List T) : Int × Int := ((r.getD 0 dflt).int, (r.getD 1 dflt).int)
def nsRecs (s : List T) : List (Int × Int) := ((s.getD 1 dflt).rows).map nsRec
def nsRows (rows : List (List T)) : List (Int × Int) := rows.flatMap nsRecs
def primNoSplit : List Arg → R3 Ret
  | [.agg [_, _, _, _, _, _, .dz es rows, _, _, _]] => cond (LT.beqs esS es) (cond (decide ((nsRows rows).length ≤ maxRow)) (.ok ⟨[.one (.sc .bool (.b (nsB (nsRows rows))))], [List.replicate 10 none], []⟩) .bad) .bad
  | _ => .bad
theorem wf_i64 {n : Int} (h1 : IntKind.i64.min ≤ n) (h2 : n ≤ IntKind.i64.max) : (Lit.int .i64 n).wf = true := by
  simp only [Lit.wf, Bool.and_eq_true, decide_eq_true_eq]
  exact ⟨h1, h2⟩
theorem shard_at {w : World} {S : Foot} {b k : Nat} {row : List T} (hcl : ∀ b' o' v, cellAt w b' o' = some v → b' < w.heap.size) (h : RowR w S S esS b k row) : ShardAt w b k (nsRecs row) := by
  simp only [esS, RowR] at h
  obtain ⟨d0, r0, v0, rfl, -, c0, l0, d1, r1, v1, rfl, -, c1, l1, d2, r2, v2, rfl, -, c2, l2, d3, r3, v3, rfl, -, c3, l3, d4, r4, v4, rfl, -, c4, l4, rfl⟩ := h
  rw [LeafR] at l0 l2
  obtain ⟨n0, rfl, -⟩ := l0
  obtain ⟨n2, rfl, -⟩ := l2
  rw [LeafR] at l1 l3 l4
  obtain ⟨a1, q1, rows1, rfl, rfl, h1a, h1b, h1c⟩ := l1
  obtain ⟨a3, q3, rows3, rfl, rfl, -⟩ := l3
  obtain ⟨a4, q4, rows4, rfl, rfl, -⟩ := l4
  have hrec : nsRecs [d0, T.l rows1, d2, T.l rows3, T.l rows4] = rows1.map nsRec := rfl
  rw [hrec]
  refine ⟨n0, n2, a1, q1, a3, _, _, a4, _, _, c0, by rw [List.length_map]; exact c1, c2, c3, c4, by rw [List.length_map]; exact h1b, fun j hj => ?_⟩
  rw [List.length_map] at hj
  rcases h1c with rfl | ⟨lb, lo, rfl, hr⟩
  · simp at hj
  have hrow := hr j hj
  have hg : (rows1.map nsRec).getD j default = nsRec rows1[j] := by simp [List.getD, hj]
  rw [hg]
  generalize rows1[j] = row at hrow
  simp only [esR, RowR, List.length_cons, List.length_nil] at hrow
  obtain ⟨e0, t0, u0, rfl, -, k0, m0, e1, t1, u1, rfl, -, k1, m1, e2, t2, u2, rfl, -, k2, m2, rfl⟩ := hrow
  rw [LeafR] at m0 m1
  obtain ⟨x0, rfl, rfl, -⟩ := m0
  obtain ⟨x1, rfl, rfl, p1, p2⟩ := m1
  rw [LeafR] at m2
  obtain ⟨a2, q2, rows2, rfl, rfl, -⟩ := m2
  exact ⟨wf_i64 p1 p2, lb, lo, a2, _, q2, rfl, hcl _ _ _ k0, k0, k1, k2⟩
theorem nsFlat_rows (rows : List (List T)) : ∀ i, i ≤ rows.length → nsFlat (fun i => nsRecs (rows.getD i [])) i = nsRows (rows.take i)
  | 0, _ => rfl
  | i + 1, h => by
    have e : rows.take (i + 1) = rows.take i ++ [rows[i]'(by omega)] := by rw [List.take_add_one, List.getElem?_eq_getElem (by omega)]; rfl
    rw [nsFlat_succ, nsFlat_rows rows i (by omega), e]
    have eg : rows.getD i [] = rows[i]'(by omega) := by simp [List.getD, List.getElem?_eq_getElem (show i < rows.length by omega)]
    unfold nsRows
    rw [List.flatMap_append, eg]
    simp only [List.flatMap_cons, List.flatMap_nil, List.append_nil]
theorem primNoSplit_ok {args : List Arg} (h : primNoSplit args ≠ .bad) : FnOk Tryz.prog 9 args (primNoSplit args) := by
  unfold primNoSplit at h ⊢
  split at h
  · rename_i a0 a1 a2 a3 a4 a5 es rows a7 a8 a9
    cases hc : LT.beqs esS es with
    | false => rw [hc] at h; exact absurd rfl h
    | true =>
      cases hm : decide ((nsRows rows).length ≤ maxRow) with
      | false => rw [hc, hm] at h; exact absurd rfl h
      | true =>
        have := LT.beqs_eq hc
        subst this
        intro g0 I A w vs hp
        obtain ⟨v, hvs, hav⟩ : ∃ v, vs = #[v] ∧ ArgR g0 w I 0 (.agg [a0, a1, a2, a3, a4, a5, .dz esS rows, a7, a8, a9]) v := by
          have hrel := hp.rel
          match hl : vs.toList, hrel with
          | [v], hrel => exact ⟨v, Array.toList_inj.1 (by simpa using hl), hrel.1⟩
          | [], hrel => exact hrel.elim
          | _ :: _ :: _, hrel => exact hrel.2.elim
        obtain ⟨cs, hcs, hals⟩ := hav
        obtain ⟨c0, c1, c2, c3, c4, c5, c6, c7, c8, c9, hl, h6⟩ : ∃ c0 c1 c2 c3 c4 c5 c6 c7 c8 c9, cs.toList = [c0, c1, c2, c3, c4, c5, c6, c7, c8, c9] ∧ LeafR w (ID g0 I) (.sl esS) c6 (.l rows) := by
          match hl : cs.toList, hals with
          | [c0, c1, c2, c3, c4, c5, c6, c7, c8, c9], hals => exact ⟨c0, c1, c2, c3, c4, c5, c6, c7, c8, c9, rfl, hals.2.2.2.2.2.2.1⟩
        have hcs2 : cs = #[c0, c1, c2, c3, c4, c5, c6, c7, c8, c9] := Array.toList_inj.1 (by simpa using hl)
        subst hvs hcs
        rw [hcs2]
        rw [LeafR] at h6
        obtain ⟨aa, cap, rows', e1, rfl, hcap, hmax, hpl⟩ := h6
        cases e1
        have hfl : nsFlat (fun i => nsRecs (rows.getD i [])) rows.length = nsRows rows := by rw [nsFlat_rows rows rows.length (Nat.le_refl _), List.take_length]
        have hlt : (nsRows rows).length ≤ 1099511627776 := of_decide_eq_true hm
        refine (ns_run aa rows.length cap c0 c1 c2 c3 c4 c5 c7 c8 c9 (fun i => nsRecs (rows.getD i [])) w (by rw [hfl]; exact hlt) hmax (fun hpos => ?_)).mono ?_
        · rcases hpl with rfl | ⟨b, o, rfl, hr⟩
          · simp at hpos
          · have hcl : ∀ b' o' v, cellAt w b' o' = some v → b' < w.heap.size := fun b' o' v hv => cell_lt ⟨v, hv⟩
            refine ⟨b, o, rfl, ?_, fun i hi => ?_⟩
            · have := hr 0 hpos
              simp only [esS, RowR] at this
              obtain ⟨d0, r0, v0, -, -, c0, -⟩ := this
              exact hcl _ _ _ c0
            · have := hr i hi
              have e : rows.getD i [] = rows[i] := by simp [List.getD, hi]
              rw [e]
              exact shard_at hcl this
        · rintro e w' ⟨rfl, hbel⟩
          refine ⟨_, g0, I, rfl, ret_plain hp hbel ⟨fun _ h => (nomatch h), fun _ h => (nomatch h)⟩ (fun g' => ⟨_, rfl, by rw [hfl]⟩) rfl fun i j => ?_⟩
          unfold ownOf
          match i with
          | 0 =>
            show (List.replicate 10 (none : Option (List LT × List M × List (List T)))).getD j none = none
            rw [List.getD_eq_getElem?_getD, List.getElem?_replicate]
            split <;> rfl
          | i + 1 => rfl
  · exact absurd rfl h
end Go.Proofs.YtjjonejgbdbnjaaGreat

namespace Go.Proofs.YtjjonejgbdbnjaaGreat
open Go Go.E Go.Proofs
noncomputable section
def primBad : List Arg → R3 Ret := fun _ => .bad
def tyTab : List (Option TI) := [
  none,
  some ⟨.other, [.sc (.any)], 8, false⟩,
  some ⟨.sc (.int .i64), [.sc (.int .i64)], 8, false⟩,
  some ⟨.sc (.int .i64), [.sc (.int .i64)], 8, false⟩,
  some ⟨.sc (.bool), [.sc (.bool)], 1, false⟩,
  some ⟨.sc (.int .u8), [.sc (.int .u8)], 1, false⟩,
  some ⟨.sc (.int .u8), [.sc (.int .u8)], 1, false⟩,
  some ⟨.struct [(0, 2), (1, 3), (2, 4), (3, 6)], [.sc (.int .i64), .sc (.int .i64), .sc (.bool), .sc (.int .u8)], 24, true⟩,
  some ⟨.struct [(0, 2), (1, 3), (2, 4), (3, 6)], [.sc (.int .i64), .sc (.int .i64), .sc (.bool), .sc (.int .u8)], 24, true⟩,
  some ⟨.sc (.str), [.sc (.str)], 16, false⟩,
  some ⟨.sc (.str), [.sc (.str)], 16, false⟩,
  some ⟨.sc (.str), [.sc (.str)], 16, false⟩,
  some ⟨.sc (.int .u64), [.sc (.int .u64)], 8, false⟩,
  some ⟨.struct [(0, 9), (1, 12)], [.sc (.str), .sc (.int .u64)], 24, false⟩,
  some ⟨.struct [(0, 9), (1, 12)], [.sc (.str), .sc (.int .u64)], 24, false⟩,
  some ⟨.ptr 206, [.sc (.any)], 8, false⟩,
  some ⟨.ptr 209, [.sc (.any)], 8, false⟩,
  some ⟨.ptr 217, [.sc (.any)], 8, false⟩,
  some ⟨.struct [(0, 17)], [.sc (.any)], 8, false⟩,
  some ⟨.struct [(0, 17)], [.sc (.any)], 8, false⟩,
  some ⟨.other, [.sc (.any)], 16, false⟩,
  some ⟨.sc (.int .i32), [.sc (.int .i32)], 4, false⟩,
  some ⟨.slice 5, [.sl [.sc (.int .u8)]], 24, false⟩,
  some ⟨.other, [.sc (.any)], 8, false⟩,
  some ⟨.slice 78, [.sl [.sc (.int .i64), .sl [.sc (.int .i64), .sc (.str), .sc (.str)], .sc (.int .i64), .sl [.sc (.int .i64)]]], 24, false⟩,
  some ⟨.slice 65, [.sl [.sc (.int .i64), .sc (.bool)]], 24, false⟩,
  some ⟨.struct [(0, 3), (1, 3), (2, 3), (3, 24), (4, 25), (5, 3)], [.sc (.int .i64), .sc (.int .i64), .sc (.int .i64), .sl [.sc (.int .i64), .sl [.sc (.int .i64), .sc (.str), .sc (.str)], .sc (.int .i64), .sl [.sc (.int .i64)]], .sl [.sc (.int .i64), .sc (.bool)], .sc (.int .i64)], 80, false⟩,
  some ⟨.struct [(0, 3), (1, 3), (2, 3), (3, 24), (4, 25), (5, 3)], [.sc (.int .i64), .sc (.int .i64), .sc (.int .i64), .sl [.sc (.int .i64), .sl [.sc (.int .i64), .sc (.str), .sc (.str)], .sc (.int .i64), .sl [.sc (.int .i64)]], .sl [.sc (.int .i64), .sc (.bool)], .sc (.int .i64)], 80, false⟩,
  some ⟨.slice 52, [.sl [.sc (.int .i64), .sl [.sc (.int .i64), .sc (.int .i64), .sl [.sc (.int .i64), .sc (.str), .sc (.str)]], .sc (.int .i64), .sl [.sc (.str), .sc (.str)], .sl [.sc (.int .i64), .sc (.int .i64), .sl [.sc (.int .i64), .sc (.str), .sc (.str)]]]], 24, false⟩,
  some ⟨.slice 107, [.sl [.sc (.int .i64), .sc (.int .i64), .sc (.int .i64), .sl [.sc (.int .i64), .sc (.str), .sc (.str)], .sc (.bool)]], 24, false⟩,
  some ⟨.slice 63, [.sl [.sc (.int .i64), .sl [.sc (.int .i64), .sc (.str), .sc (.str)]]], 24, false⟩,
  some ⟨.struct [(0, 27), (6, 28), (7, 29), (8, 29), (9, 30)], [.sc (.int .i64), .sc (.int .i64), .sc (.int .i64), .sl [.sc (.int .i64), .sl [.sc (.int .i64), .sc (.str), .sc (.str)], .sc (.int .i64), .sl [.sc (.int .i64)]], .sl [.sc (.int .i64), .sc (.bool)], .sc (.int .i64), .sl [.sc (.int .i64), .sl [.sc (.int .i64), .sc (.int .i64), .sl [.sc (.int .i64), .sc (.str), .sc (.str)]], .sc (.int .i64), .sl [.sc (.str), .sc (.str)], .sl [.sc (.int .i64), .sc (.int .i64), .sl [.sc (.int .i64), .sc (.str), .sc (.str)]]], .sl [.sc (.int .i64), .sc (.int .i64), .sc (.int .i64), .sl [.sc (.int .i64), .sc (.str), .sc (.str)], .sc (.bool)], .sl [.sc (.int .i64), .sc (.int .i64), .sc (.int .i64), .sl [.sc (.int .i64), .sc (.str), .sc (.str)], .sc (.bool)], .sl [.sc (.int .i64), .sl [.sc (.int .i64), .sc (.str), .sc (.str)]]], 176, false⟩,
  some ⟨.struct [(0, 27), (6, 28), (7, 29), (8, 29), (9, 30)], [.sc (.int .i64), .sc (.int .i64), .sc (.int .i64), .sl [.sc (.int .i64), .sl [.sc (.int .i64), .sc (.str), .sc (.str)], .sc (.int .i64), .sl [.sc (.int .i64)]], .sl [.sc (.int .i64), .sc (.bool)], .sc (.int .i64), .sl [.sc (.int .i64), .sl [.sc (.int .i64), .sc (.int .i64), .sl [.sc (.int .i64), .sc (.str), .sc (.str)]], .sc (.int .i64), .sl [.sc (.str), .sc (.str)], .sl [.sc (.int .i64), .sc (.int .i64), .sl [.sc (.int .i64), .sc (.str), .sc (.str)]]], .sl [.sc (.int .i64), .sc (.int .i64), .sc (.int .i64), .sl [.sc (.int .i64), .sc (.str), .sc (.str)], .sc (.bool)], .sl [.sc (.int .i64), .sc (.int .i64), .sc (.int .i64), .sl [.sc (.int .i64), .sc (.str), .sc (.str)], .sc (.bool)], .sl [.sc (.int .i64), .sl [.sc (.int .i64), .sc (.str), .sc (.str)]]], 176, false⟩,
  some ⟨.other, [.sc (.any)], 8, false⟩,
  some ⟨.other, [.sc (.any)], 8, false⟩,
  some ⟨.other, [.sc (.any)], 8, false⟩,
  some ⟨.other, [.sc (.any)], 8, false⟩,
  some ⟨.other, [.sc (.any)], 8, false⟩,
  some ⟨.slice 103, [.sl [.sc (.str), .sc (.str)]], 24, false⟩,
  some ⟨.other, [.sc (.any)], 8, false⟩,
  some ⟨.other, [.sc (.any)], 8, false⟩,
  some ⟨.other, [.sc (.any)], 8, false⟩,
  some ⟨.ptr 81, [.sc (.any)], 8, false⟩,
  some ⟨.other, [.sc (.any)], 8, false⟩,
  some ⟨.other, [.sc (.any)], 8, false⟩,
  some ⟨.other, [.sc (.any)], 8, false⟩,
  some ⟨.array 5 4, [.sc (.bool), .sc (.bool), .sc (.bool), .sc (.bool), .sc (.bool)], 5, false⟩,
  some ⟨.other, [.sc (.any)], 8, false⟩,
  some ⟨.slice 4, [.sl [.sc (.bool)]], 24, false⟩,
  some ⟨.other, [.sc (.any)], 8, false⟩,
  some ⟨.slice 55, [.sl [.sc (.int .i64), .sc (.int .i64), .sl [.sc (.int .i64), .sc (.str), .sc (.str)]]], 24, false⟩,
  some ⟨.struct [(0, 3), (1, 50), (2, 3), (3, 38), (4, 50)], [.sc (.int .i64), .sl [.sc (.int .i64), .sc (.int .i64), .sl [.sc (.int .i64), .sc (.str), .sc (.str)]], .sc (.int .i64), .sl [.sc (.str), .sc (.str)], .sl [.sc (.int .i64), .sc (.int .i64), .sl [.sc (.int .i64), .sc (.str), .sc (.str)]]], 88, false⟩,
  some ⟨.struct [(0, 3), (1, 50), (2, 3), (3, 38), (4, 50)], [.sc (.int .i64), .sl [.sc (.int .i64), .sc (.int .i64), .sl [.sc (.int .i64), .sc (.str), .sc (.str)]], .sc (.int .i64), .sl [.sc (.str), .sc (.str)], .sl [.sc (.int .i64), .sc (.int .i64), .sl [.sc (.int .i64), .sc (.str), .sc (.str)]]], 88, false⟩,
  some ⟨.slice 60, [.sl [.sc (.int .i64), .sc (.str), .sc (.str)]], 24, false⟩,
  some ⟨.struct [(0, 3), (1, 3), (2, 53)], [.sc (.int .i64), .sc (.int .i64), .sl [.sc (.int .i64), .sc (.str), .sc (.str)]], 40, false⟩,
  some ⟨.struct [(0, 3), (1, 3), (2, 53)], [.sc (.int .i64), .sc (.int .i64), .sl [.sc (.int .i64), .sc (.str), .sc (.str)]], 40, false⟩,
  some ⟨.other, [.sc (.any)], 8, false⟩,
  some ⟨.other, [.sc (.any)], 8, false⟩,
  some ⟨.other, [.sc (.any)], 8, false⟩,
  some ⟨.struct [(0, 3), (1, 9), (2, 9)], [.sc (.int .i64), .sc (.str), .sc (.str)], 40, true⟩,
  some ⟨.struct [(0, 3), (1, 9), (2, 9)], [.sc (.int .i64), .sc (.str), .sc (.str)], 40, true⟩,
  some ⟨.other, [.sc (.any)], 8, false⟩,
  some ⟨.struct [(0, 3), (1, 53)], [.sc (.int .i64), .sl [.sc (.int .i64), .sc (.str), .sc (.str)]], 32, false⟩,
  some ⟨.struct [(0, 3), (1, 53)], [.sc (.int .i64), .sl [.sc (.int .i64), .sc (.str), .sc (.str)]], 32, false⟩,
  some ⟨.struct [(0, 3), (1, 4)], [.sc (.int .i64), .sc (.bool)], 16, true⟩,
  some ⟨.struct [(0, 3), (1, 4)], [.sc (.int .i64), .sc (.bool)], 16, true⟩,
  some ⟨.slice 3, [.sl [.sc (.int .i64)]], 24, false⟩,
  some ⟨.other, [.sc (.any)], 8, false⟩,
  some ⟨.other, [.sc (.any)], 8, false⟩,
  some ⟨.other, [.sc (.any)], 8, false⟩,
  some ⟨.other, [.sc (.any)], 8, false⟩,
  some ⟨.other, [.sc (.any)], 8, false⟩,
  some ⟨.other, [.sc (.any)], 8, false⟩,
  some ⟨.other, [.sc (.any)], 8, false⟩,
  some ⟨.other, [.sc (.any)], 8, false⟩,
  some ⟨.other, [.sc (.any)], 8, false⟩,
  some ⟨.other, [.sc (.any)], 8, false⟩,
  some ⟨.struct [(0, 3), (1, 53), (2, 3), (3, 66)], [.sc (.int .i64), .sl [.sc (.int .i64), .sc (.str), .sc (.str)], .sc (.int .i64), .sl [.sc (.int .i64)]], 64, false⟩,
  some ⟨.struct [(0, 3), (1, 53), (2, 3), (3, 66)], [.sc (.int .i64), .sl [.sc (.int .i64), .sc (.str), .sc (.str)], .sc (.int .i64), .sl [.sc (.int .i64)]], 64, false⟩,
  some ⟨.other, [.sc (.any)], 8, false⟩,
  some ⟨.struct [(0, 22), (1, 3), (2, 3)], [.sl [.sc (.int .u8)], .sc (.int .i64), .sc (.int .i64)], 40, false⟩,
  some ⟨.struct [(0, 22), (1, 3), (2, 3)], [.sl [.sc (.int .u8)], .sc (.int .i64), .sc (.int .i64)], 40, false⟩,
  some ⟨.other, [.sc (.any)], 8, false⟩,
  some ⟨.other, [.sc (.any)], 8, false⟩,
  some ⟨.ptr 32, [.sc (.any)], 8, false⟩,
  some ⟨.struct [(0, 3), (1, 3), (2, 3), (3, 53)], [.sc (.int .i64), .sc (.int .i64), .sc (.int .i64), .sl [.sc (.int .i64), .sc (.str), .sc (.str)]], 48, false⟩,
  some ⟨.struct [(0, 3), (1, 3), (2, 3), (3, 53)], [.sc (.int .i64), .sc (.int .i64), .sc (.int .i64), .sl [.sc (.int .i64), .sc (.str), .sc (.str)]], 48, false⟩,
  some ⟨.other, [.sc (.any)], 8, false⟩,
  some ⟨.other, [.sc (.any)], 8, false⟩,
  some ⟨.other, [.sc (.any)], 8, false⟩,
  some ⟨.other, [.sc (.any)], 8, false⟩,
  some ⟨.other, [.sc (.any)], 8, false⟩,
  some ⟨.other, [.sc (.any)], 8, false⟩,
  some ⟨.other, [.sc (.any)], 8, false⟩,
  some ⟨.other, [.sc (.any)], 8, false⟩,
  some ⟨.other, [.sc (.any)], 8, false⟩,
  some ⟨.other, [.sc (.any)], 8, false⟩,
  some ⟨.other, [.sc (.any)], 8, false⟩,
  some ⟨.ptr 52, [.sc (.any)], 8, false⟩,
  none,
  some ⟨.other, [.sc (.any)], 8, false⟩,
  some ⟨.other, [.sc (.any)], 8, false⟩,
  some ⟨.struct [(0, 9), (1, 9)], [.sc (.str), .sc (.str)], 32, true⟩,
  some ⟨.struct [(0, 9), (1, 9)], [.sc (.str), .sc (.str)], 32, true⟩,
  some ⟨.other, [.sc (.any)], 8, false⟩,
  some ⟨.other, [.sc (.any)], 8, false⟩,
  some ⟨.struct [(0, 3), (1, 3), (2, 3), (3, 53), (4, 4)], [.sc (.int .i64), .sc (.int .i64), .sc (.int .i64), .sl [.sc (.int .i64), .sc (.str), .sc (.str)], .sc (.bool)], 56, false⟩,
  some ⟨.struct [(0, 3), (1, 3), (2, 3), (3, 53), (4, 4)], [.sc (.int .i64), .sc (.int .i64), .sc (.int .i64), .sl [.sc (.int .i64), .sc (.str), .sc (.str)], .sc (.bool)], 56, false⟩,
  some ⟨.other, [.sc (.any)], 8, false⟩,
  some ⟨.other, [.sc (.any)], 8, false⟩,
  some ⟨.other, [.sc (.any)], 8, false⟩,
  some ⟨.other, [.sc (.any)], 8, false⟩,
  some ⟨.other, [.sc (.any)], 8, false⟩,
  some ⟨.ptr 27, [.sc (.any)], 8, false⟩,
  some ⟨.other, [.sc (.any)], 8, false⟩,
  some ⟨.other, [.sc (.any)], 8, false⟩,
  some ⟨.other, [.sc (.any)], 8, false⟩,
  some ⟨.other, [.sc (.any)], 8, false⟩,
  some ⟨.other, [.sc (.any)], 8, false⟩,
  some ⟨.other, [.sc (.any)], 8, false⟩,
  some ⟨.other, [.sc (.any)], 8, false⟩,
  some ⟨.other, [.sc (.any)], 8, false⟩,
  some ⟨.other, [.sc (.any)], 8, false⟩,
  some ⟨.other, [.sc (.any)], 8, false⟩,
  some ⟨.other, [.sc (.any)], 8, false⟩,
  some ⟨.other, [.sc (.any)], 8, false⟩,
  some ⟨.other, [.sc (.any)], 8, false⟩,
  some ⟨.other, [.sc (.any)], 8, false⟩,
  some ⟨.other, [.sc (.any)], 8, false⟩,
  some ⟨.other, [.sc (.any)], 8, false⟩,
  some ⟨.sc (.int .u64), [.sc (.int .u64)], 8, false⟩,
  some ⟨.struct [(0, 38), (1, 50)], [.sl [.sc (.str), .sc (.str)], .sl [.sc (.int .i64), .sc (.int .i64), .sl [.sc (.int .i64), .sc (.str), .sc (.str)]]], 48, false⟩,
  some ⟨.struct [(0, 38), (1, 50)], [.sl [.sc (.str), .sc (.str)], .sl [.sc (.int .i64), .sc (.int .i64), .sl [.sc (.int .i64), .sc (.str), .sc (.str)]]], 48, false⟩,
  some ⟨.other, [.sc (.any)], 8, false⟩,
  some ⟨.other, [.sc (.any)], 8, false⟩,
  some ⟨.other, [.sc (.any)], 8, false⟩,
  some ⟨.other, [.sc (.any)], 8, false⟩,
  some ⟨.other, [.sc (.any)], 8, false⟩,
  some ⟨.other, [.sc (.any)], 8, false⟩,
  some ⟨.other, [.sc (.any)], 8, false⟩,
  some ⟨.other, [.sc (.any)], 8, false⟩,
  none,
  some ⟨.other, [.sc (.any)], 8, false⟩,
  some ⟨.other, [.sc (.any)], 8, false⟩,
  some ⟨.other, [.sc (.any)], 8, false⟩,
  none,
  some ⟨.other, [.sc (.any)], 8, false⟩,
  some ⟨.other, [.sc (.any)], 8, false⟩,
  some ⟨.other, [.sc (.any)], 8, false⟩,
  some ⟨.other, [.sc (.any)], 8, false⟩,
  some ⟨.other, [.sc (.any)], 8, false⟩,
  some ⟨.other, [.sc (.any)], 8, false⟩,
  some ⟨.ptr 154, [.sc (.any)], 8, false⟩,
  some ⟨.struct [(0, 38), (1, 50), (2, 66)], [.sl [.sc (.str), .sc (.str)], .sl [.sc (.int .i64), .sc (.int .i64), .sl [.sc (.int .i64), .sc (.str), .sc (.str)]], .sl [.sc (.int .i64)]], 72, false⟩,
  some ⟨.struct [(0, 38), (1, 50), (2, 66)], [.sl [.sc (.str), .sc (.str)], .sl [.sc (.int .i64), .sc (.int .i64), .sl [.sc (.int .i64), .sc (.str), .sc (.str)]], .sl [.sc (.int .i64)]], 72, false⟩,
  some ⟨.other, [.sc (.any)], 8, false⟩,
  some ⟨.other, [.sc (.any)], 8, false⟩,
  some ⟨.sc (.int .u32), [.sc (.int .u32)], 4, false⟩,
  some ⟨.other, [.sc (.any)], 8, false⟩,
  some ⟨.sc (.int .i64), [.sc (.int .i64)], 8, false⟩,
  none,
  some ⟨.other, [.sc (.any)], 8, false⟩,
  some ⟨.other, [.sc (.any)], 8, false⟩,
  some ⟨.other, [.sc (.any)], 8, false⟩,
  some ⟨.other, [.sc (.any)], 8, false⟩,
  none,
  some ⟨.other, [.sc (.any)], 8, false⟩,
  some ⟨.other, [.sc (.any)], 8, false⟩,
  some ⟨.other, [.sc (.any)], 8, false⟩,
  some ⟨.sc (.int .u64), [.sc (.int .u64)], 8, false⟩,
  some ⟨.ptr 132, [.sc (.any)], 8, false⟩,
  some ⟨.other, [.sc (.any)], 8, false⟩,
  some ⟨.other, [.sc (.any)], 8, false⟩,
  some ⟨.other, [.sc (.any)], 8, false⟩,
  some ⟨.other, [.sc (.any)], 8, false⟩,
  some ⟨.other, [.sc (.any)], 8, false⟩,
  some ⟨.other, [.sc (.any)], 8, false⟩,
  some ⟨.other, [.sc (.any)], 8, false⟩,
  some ⟨.other, [.sc (.any)], 8, false⟩,
  some ⟨.other, [.sc (.any)], 8, false⟩,
  none,
  some ⟨.other, [.sc (.any)], 8, false⟩,
  some ⟨.other, [.sc (.any)], 8, false⟩,
  some ⟨.other, [.sc (.any)], 8, false⟩,
  some ⟨.slice 9, [.sl [.sc (.str)]], 24, false⟩,
  some ⟨.other, [.sc (.any)], 8, false⟩,
  some ⟨.sc (.int .u64), [.sc (.int .u64)], 8, false⟩,
  some ⟨.other, [.sc (.any)], 8, false⟩,
  some ⟨.other, [.sc (.any)], 8, false⟩,
  some ⟨.other, [.sc (.any)], 8, false⟩,
  some ⟨.ptr 3, [.sc (.any)], 8, false⟩,
  some ⟨.other, [.sc (.any)], 8, false⟩,
  none,
  some ⟨.other, [.sc (.any)], 8, false⟩,
  some ⟨.other, [.sc (.any)], 8, false⟩,
  some ⟨.other, [.sc (.any)], 8, false⟩,
  some ⟨.other, [.sc (.any)], 8, false⟩,
  some ⟨.ptr 78, [.sc (.any)], 8, false⟩,
  some ⟨.ptr 186, [.sc (.any)], 8, false⟩,
  none,
  some ⟨.other, [.sc (.any)], 8, false⟩,
  some ⟨.other, [.sc (.any)], 8, false⟩,
  some ⟨.other, [.sc (.any)], 8, false⟩,
  some ⟨.other, [.sc (.any)], 8, false⟩,
  some ⟨.other, [.sc (.any)], 8, false⟩,
  some ⟨.struct [(0, 17), (1, 17), (2, 17), (3, 9)], [.sc (.any), .sc (.any), .sc (.any), .sc (.str)], 40, false⟩,
  some ⟨.struct [(0, 17), (1, 17), (2, 17), (3, 9)], [.sc (.any), .sc (.any), .sc (.any), .sc (.str)], 40, false⟩,
  some ⟨.array 0 16, [], 0, false⟩,
  none,
  none,
  some ⟨.sc (.int .u8), [.sc (.int .u8)], 1, false⟩,
  some ⟨.sc (.int .u8), [.sc (.int .u8)], 1, false⟩,
  some ⟨.other, [.sc (.any)], 8, false⟩,
  some ⟨.ptr 5, [.sc (.any)], 8, false⟩,
  some ⟨.sc (.int .i32), [.sc (.int .i32)], 4, false⟩,
  some ⟨.sc (.int .i32), [.sc (.int .i32)], 4, false⟩,
  some ⟨.struct [(0, 12), (1, 12), (2, 157), (3, 210), (4, 5), (5, 5), (6, 211), (7, 212), (8, 213), (9, 214), (10, 215)], [.sc (.int .u64), .sc (.int .u64), .sc (.int .u32), .sc (.int .u8), .sc (.int .u8), .sc (.int .u8), .sc (.int .u8), .sc (.any), .sc (.any), .sc (.int .i32), .sc (.int .i32)], 48, false⟩,
  some ⟨.struct [(0, 12), (1, 12), (2, 157), (3, 210), (4, 5), (5, 5), (6, 211), (7, 212), (8, 213), (9, 214), (10, 215)], [.sc (.int .u64), .sc (.int .u64), .sc (.int .u32), .sc (.int .u8), .sc (.int .u8), .sc (.int .u8), .sc (.int .u8), .sc (.any), .sc (.any), .sc (.int .i32), .sc (.int .i32)], 48, false⟩,
  some ⟨.other, [.sc (.any)], 8, false⟩,
  some ⟨.other, [.sc (.any)], 8, false⟩]
noncomputable def fnTab : List (Nat × Func) := [
  (2, Tryz.f2),
  (3, Tryz.f3),
  (4, Tryz.f4),
  (5, Tryz.f5),
  (6, Tryz.f6),
  (7, Tryz.f7),
  (8, Tryz.f8),
  (9, Tryz.f9),
  (10, Tryz.f10),
  (11, Tryz.f11),
  (12, Tryz.f12),
  (13, Tryz.f13),
  (14, Tryz.f14),
  (15, Tryz.f15),
  (16, Tryz.f16),
  (17, Tryz.f17),
  (18, Tryz.f18),
  (19, Tryz.f19),
  (20, Tryz.f20),
  (21, Tryz.f21),
  (22, Tryz.f22),
  (23, Tryz.f23),
  (24, Tryz.f24),
  (25, Tryz.f25),
  (26, Tryz.f26),
  (27, Tryz.f27),
  (28, Tryz.f28),
  (29, Tryz.f29),
  (30, Tryz.f30),
  (31, Tryz.f31),
  (32, Tryz.f32),
  (33, Tryz.f33),
  (34, Tryz.f34),
  (35, Tryz.f35),
  (36, Tryz.f36),
  (37, Tryz.f37),
  (38, Tryz.f38),
  (39, Tryz.f39),
  (40, Tryz.f40),
  (41, Tryz.f41),
  (42, Tryz.f42),
  (43, Tryz.f43),
  (44, Tryz.f44),
  (45, Tryz.f45),
  (46, Tryz.f46),
  (47, Tryz.f47),
  (48, Tryz.f48),
  (49, Tryz.f49),
  (50, Tryz.f50),
  (51, Tryz.f51),
  (52, Tryz.f52),
  (53, Tryz.f53),
  (54, Tryz.f54),
  (55, Tryz.f55),
  (56, Tryz.f56),
  (57, Tryz.f57),
  (58, Tryz.f58),
  (59, Tryz.f59),
  (60, Tryz.f60),
  (61, Tryz.f61),
  (62, Tryz.f62),
  (63, Tryz.f63),
  (64, Tryz.f64),
  (65, Tryz.f65),
  (66, Tryz.f66),
  (67, Tryz.f67),
  (68, Tryz.f68),
  (69, Tryz.f69),
  (70, Tryz.f70),
  (71, Tryz.f71),
  (72, Tryz.f72),
  (73, Tryz.f73),
  (74, Tryz.f74),
  (75, Tryz.f75),
  (76, Tryz.f76),
  (77, Tryz.f77),
  (78, Tryz.f78),
  (79, Tryz.f79),
  (80, Tryz.f80),
  (81, Tryz.f81),
  (82, Tryz.f82),
  (83, Tryz.f83),
  (84, Tryz.f84),
  (85, Tryz.f85),
  (86, Tryz.f86),
  (87, Tryz.f87),
  (88, Tryz.f88),
  (89, Tryz.f89),
  (90, Tryz.f90),
  (91, Tryz.f91),
  (92, Tryz.f92),
  (93, Tryz.f93),
  (94, Tryz.f94),
  (95, Tryz.f95),
  (96, Tryz.f96),
  (97, Tryz.f97),
  (98, Tryz.f98),
  (99, Tryz.f99),
  (100, Tryz.f100),
  (101, Tryz.f101),
  (102, Tryz.f102),
  (103, Tryz.f103),
  (104, Tryz.f104),
  (105, Tryz.f105),
  (106, Tryz.f106),
  (107, Tryz.f107),
  (108, Tryz.f108),
  (109, Tryz.f109),
  (110, Tryz.f110),
  (111, Tryz.f111),
  (112, Tryz.f112),
  (113, Tryz.f113),
  (114, Tryz.f114),
  (115, Tryz.f115),
  (116, Tryz.f116),
  (117, Tryz.f117),
  (118, Tryz.f118),
  (119, Tryz.f119),
  (120, Tryz.f120),
  (121, Tryz.f121),
  (122, Tryz.f122),
  (123, Tryz.f123),
  (124, Tryz.f124),
  (125, Tryz.f125),
  (126, Tryz.f126),
  (127, Tryz.f127),
  (128, Tryz.f128),
  (129, Tryz.f129),
  (130, Tryz.f130),
  (131, Tryz.f131),
  (132, Tryz.f132),
  (133, Tryz.f133),
  (134, Tryz.f134),
  (135, Tryz.f135),
  (136, Tryz.f136),
  (137, Tryz.f137),
  (138, Tryz.f138),
  (139, Tryz.f139),
  (140, Tryz.f140),
  (141, Tryz.f141),
  (142, Tryz.f142),
  (143, Tryz.f143),
  (144, Tryz.f144),
  (145, Tryz.f145),
  (146, Tryz.f146),
  (147, Tryz.f147),
  (148, Tryz.f148),
  (150, Tryz.f150),
  (151, Tryz.f151),
  (152, Tryz.f152),
  (153, Tryz.f153),
  (154, Tryz.f154),
  (155, Tryz.f155),
  (156, Tryz.f156),
  (157, Tryz.f157),
  (158, Tryz.f158),
  (159, Tryz.f159),
  (160, Tryz.f160),
  (161, Tryz.f161),
  (162, Tryz.f162),
  (163, Tryz.f163),
  (164, Tryz.f164),
  (165, Tryz.f165),
  (166, Tryz.f166),
  (167, Tryz.f167),
  (168, Tryz.f168),
  (169, Tryz.f169),
  (170, Tryz.f170),
  (171, Tryz.f171),
  (172, Tryz.f172),
  (173, Tryz.f173),
  (174, Tryz.f174),
  (175, Tryz.f175),
  (176, Tryz.f176),
  (177, Tryz.f177),
  (178, Tryz.f178),
  (179, Tryz.f179),
  (180, Tryz.f180),
  (181, Tryz.f181),
  (182, Tryz.f182),
  (183, Tryz.f183),
  (184, Tryz.f184)]
theorem fns_ok : FnsOk Tryz.prog fnTab := by
  unfold fnTab
  exact ⟨⟨Tryz.func2, by kernel_rfl, by kernel_rfl⟩, ⟨Tryz.func3, by kernel_rfl, by kernel_rfl⟩, ⟨Tryz.func4, by kernel_rfl, by kernel_rfl⟩, ⟨Tryz.func5, by kernel_rfl, by kernel_rfl⟩, ⟨Tryz.func6, by kernel_rfl, by kernel_rfl⟩, ⟨Tryz.func7, by kernel_rfl, by kernel_rfl⟩, ⟨Tryz.func8, by kernel_rfl, by kernel_rfl⟩, ⟨Tryz.func9, by kernel_rfl, by kernel_rfl⟩, ⟨Tryz.func10, by kernel_rfl, by kernel_rfl⟩, ⟨Tryz.func11, by kernel_rfl, by kernel_rfl⟩, ⟨Tryz.func12, by kernel_rfl, by kernel_rfl⟩, ⟨Tryz.func13, by kernel_rfl, by kernel_rfl⟩, ⟨Tryz.func14, by kernel_rfl, by kernel_rfl⟩, ⟨Tryz.func15, by kernel_rfl, by kernel_rfl⟩, ⟨Tryz.func16, by kernel_rfl, by kernel_rfl⟩, ⟨Tryz.func17, by kernel_rfl, by kernel_rfl⟩, ⟨Tryz.func18, by kernel_rfl, by kernel_rfl⟩, ⟨Tryz.func19, by kernel_rfl, by kernel_rfl⟩, ⟨Tryz.func20, by kernel_rfl, by kernel_rfl⟩, ⟨Tryz.func21, by kernel_rfl, by kernel_rfl⟩, ⟨Tryz.func22, by kernel_rfl, by kernel_rfl⟩, ⟨Tryz.func23, by kernel_rfl, by kernel_rfl⟩, ⟨Tryz.func24, by kernel_rfl, by kernel_rfl⟩, ⟨Tryz.func25, by kernel_rfl, by kernel_rfl⟩, ⟨Tryz.func26, by kernel_rfl, by kernel_rfl⟩, ⟨Tryz.func27, by kernel_rfl, by kernel_rfl⟩, ⟨Tryz.func28, by kernel_rfl, by kernel_rfl⟩, ⟨Tryz.func29, by kernel_rfl, by kernel_rfl⟩, ⟨Tryz.func30, by kernel_rfl, by kernel_rfl⟩, ⟨Tryz.func31, by kernel_rfl, by kernel_rfl⟩, ⟨Tryz.func32, by kernel_rfl, by kernel_rfl⟩, ⟨Tryz.func33, by kernel_rfl, by kernel_rfl⟩, ⟨Tryz.func34, by kernel_rfl, by kernel_rfl⟩, ⟨Tryz.func35, by kernel_rfl, by kernel_rfl⟩, ⟨Tryz.func36, by kernel_rfl, by kernel_rfl⟩, ⟨Tryz.func37, by kernel_rfl, by kernel_rfl⟩, ⟨Tryz.func38, by kernel_rfl, by kernel_rfl⟩, ⟨Tryz.func39, by kernel_rfl, by kernel_rfl⟩, ⟨Tryz.func40, by kernel_rfl, by kernel_rfl⟩, ⟨Tryz.func41, by kernel_rfl, by kernel_rfl⟩, ⟨Tryz.func42, by kernel_rfl, by kernel_rfl⟩, ⟨Tryz.func43, by kernel_rfl, by kernel_rfl⟩, ⟨Tryz.func44, by kernel_rfl, by kernel_rfl⟩, ⟨Tryz.func45, by kernel_rfl, by kernel_rfl⟩, ⟨Tryz.func46, by kernel_rfl, by kernel_rfl⟩, ⟨Tryz.func47, by kernel_rfl, by kernel_rfl⟩, ⟨Tryz.func48, by kernel_rfl, by kernel_rfl⟩, ⟨Tryz.func49, by kernel_rfl, by kernel_rfl⟩, ⟨Tryz.func50, by kernel_rfl, by kernel_rfl⟩, ⟨Tryz.func51, by kernel_rfl, by kernel_rfl⟩, ⟨Tryz.func52, by kernel_rfl, by kernel_rfl⟩, ⟨Tryz.func53, by kernel_rfl, by kernel_rfl⟩, ⟨Tryz.func54, by kernel_rfl, by kernel_rfl⟩, ⟨Tryz.func55, by kernel_rfl, by kernel_rfl⟩, ⟨Tryz.func56, by kernel_rfl, by kernel_rfl⟩, ⟨Tryz.func57, by kernel_rfl, by kernel_rfl⟩, ⟨Tryz.func58, by kernel_rfl, by kernel_rfl⟩, ⟨Tryz.func59, by kernel_rfl, by kernel_rfl⟩, ⟨Tryz.func60, by kernel_rfl, by kernel_rfl⟩, ⟨Tryz.func61, by kernel_rfl, by kernel_rfl⟩, ⟨Tryz.func62, by kernel_rfl, by kernel_rfl⟩, ⟨Tryz.func63, by kernel_rfl, by kernel_rfl⟩, ⟨Tryz.func64, by kernel_rfl, by kernel_rfl⟩, ⟨Tryz.func65, by kernel_rfl, by kernel_rfl⟩, ⟨Tryz.func66, by kernel_rfl, by kernel_rfl⟩, ⟨Tryz.func67, by kernel_rfl, by kernel_rfl⟩, ⟨Tryz.func68, by kernel_rfl, by kernel_rfl⟩, ⟨Tryz.func69, by kernel_rfl, by kernel_rfl⟩, ⟨Tryz.func70, by kernel_rfl, by kernel_rfl⟩, ⟨Tryz.func71, by kernel_rfl, by kernel_rfl⟩, ⟨Tryz.func72, by kernel_rfl, by kernel_rfl⟩, ⟨Tryz.func73, by kernel_rfl, by kernel_rfl⟩, ⟨Tryz.func74, by kernel_rfl, by kernel_rfl⟩, ⟨Tryz.func75, by kernel_rfl, by kernel_rfl⟩, ⟨Tryz.func76, by kernel_rfl, by kernel_rfl⟩, ⟨Tryz.func77, by kernel_rfl, by kernel_rfl⟩, ⟨Tryz.func78, by kernel_rfl, by kernel_rfl⟩, ⟨Tryz.func79, by kernel_rfl, by kernel_rfl⟩, ⟨Tryz.func80, by kernel_rfl, by kernel_rfl⟩, ⟨Tryz.func81, by kernel_rfl, by kernel_rfl⟩, ⟨Tryz.func82, by kernel_rfl, by kernel_rfl⟩, ⟨Tryz.func83, by kernel_rfl, by kernel_rfl⟩, ⟨Tryz.func84, by kernel_rfl, by kernel_rfl⟩, ⟨Tryz.func85, by kernel_rfl, by kernel_rfl⟩, ⟨Tryz.func86, by kernel_rfl, by kernel_rfl⟩, ⟨Tryz.func87, by kernel_rfl, by kernel_rfl⟩, ⟨Tryz.func88, by kernel_rfl, by kernel_rfl⟩, ⟨Tryz.func89, by kernel_rfl, by kernel_rfl⟩, ⟨Tryz.func90, by kernel_rfl, by kernel_rfl⟩, ⟨Tryz.func91, by kernel_rfl, by kernel_rfl⟩, ⟨Tryz.func92, by kernel_rfl, by kernel_rfl⟩, ⟨Tryz.func93, by kernel_rfl, by kernel_rfl⟩, ⟨Tryz.func94, by kernel_rfl, by kernel_rfl⟩, ⟨Tryz.func95, by kernel_rfl, by kernel_rfl⟩, ⟨Tryz.func96, by kernel_rfl, by kernel_rfl⟩, ⟨Tryz.func97, by kernel_rfl, by kernel_rfl⟩, ⟨Tryz.func98, by kernel_rfl, by kernel_rfl⟩, ⟨Tryz.func99, by kernel_rfl, by kernel_rfl⟩, ⟨Tryz.func100, by kernel_rfl, by kernel_rfl⟩, ⟨Tryz.func101, by kernel_rfl, by kernel_rfl⟩, ⟨Tryz.func102, by kernel_rfl, by kernel_rfl⟩, ⟨Tryz.func103, by kernel_rfl, by kernel_rfl⟩, ⟨Tryz.func104, by kernel_rfl, by kernel_rfl⟩, ⟨Tryz.func105, by kernel_rfl, by kernel_rfl⟩, ⟨Tryz.func106, by kernel_rfl, by kernel_rfl⟩, ⟨Tryz.func107, by kernel_rfl, by kernel_rfl⟩, ⟨Tryz.func108, by kernel_rfl, by kernel_rfl⟩, ⟨Tryz.func109, by kernel_rfl, by kernel_rfl⟩, ⟨Tryz.func110, by kernel_rfl, by kernel_rfl⟩, ⟨Tryz.func111, by kernel_rfl, by kernel_rfl⟩, ⟨Tryz.func112, by kernel_rfl, by kernel_rfl⟩, ⟨Tryz.func113, by kernel_rfl, by kernel_rfl⟩, ⟨Tryz.func114, by kernel_rfl, by kernel_rfl⟩, ⟨Tryz.func115, by kernel_rfl, by kernel_rfl⟩, ⟨Tryz.func116, by kernel_rfl, by kernel_rfl⟩, ⟨Tryz.func117, by kernel_rfl, by kernel_rfl⟩, ⟨Tryz.func118, by kernel_rfl, by kernel_rfl⟩, ⟨Tryz.func119, by kernel_rfl, by kernel_rfl⟩, ⟨Tryz.func120, by kernel_rfl, by kernel_rfl⟩, ⟨Tryz.func121, by kernel_rfl, by kernel_rfl⟩, ⟨Tryz.func122, by kernel_rfl, by kernel_rfl⟩, ⟨Tryz.func123, by kernel_rfl, by kernel_rfl⟩, ⟨Tryz.func124, by kernel_rfl, by kernel_rfl⟩, ⟨Tryz.func125, by kernel_rfl, by kernel_rfl⟩, ⟨Tryz.func126, by kernel_rfl, by kernel_rfl⟩, ⟨Tryz.func127, by kernel_rfl, by kernel_rfl⟩, ⟨Tryz.func128, by kernel_rfl, by kernel_rfl⟩, ⟨Tryz.func129, by kernel_rfl, by kernel_rfl⟩, ⟨Tryz.func130, by kernel_rfl, by kernel_rfl⟩, ⟨Tryz.func131, by kernel_rfl, by kernel_rfl⟩, ⟨Tryz.func132, by kernel_rfl, by kernel_rfl⟩, ⟨Tryz.func133, by kernel_rfl, by kernel_rfl⟩, ⟨Tryz.func134, by kernel_rfl, by kernel_rfl⟩, ⟨Tryz.func135, by kernel_rfl, by kernel_rfl⟩, ⟨Tryz.func136, by kernel_rfl, by kernel_rfl⟩, ⟨Tryz.func137, by kernel_rfl, by kernel_rfl⟩, ⟨Tryz.func138, by kernel_rfl, by kernel_rfl⟩, ⟨Tryz.func139, by kernel_rfl, by kernel_rfl⟩, ⟨Tryz.func140, by kernel_rfl, by kernel_rfl⟩, ⟨Tryz.func141, by kernel_rfl, by kernel_rfl⟩, ⟨Tryz.func142, by kernel_rfl, by kernel_rfl⟩, ⟨Tryz.func143, by kernel_rfl, by kernel_rfl⟩, ⟨Tryz.func144, by kernel_rfl, by kernel_rfl⟩, ⟨Tryz.func145, by kernel_rfl, by kernel_rfl⟩, ⟨Tryz.func146, by kernel_rfl, by kernel_rfl⟩, ⟨Tryz.func147, by kernel_rfl, by kernel_rfl⟩, ⟨Tryz.func148, by kernel_rfl, by kernel_rfl⟩, ⟨Tryz.func150, by kernel_rfl, by kernel_rfl⟩, ⟨Tryz.func151, by kernel_rfl, by kernel_rfl⟩, ⟨Tryz.func152, by kernel_rfl, by kernel_rfl⟩, ⟨Tryz.func153, by kernel_rfl, by kernel_rfl⟩, ⟨Tryz.func154, by kernel_rfl, by kernel_rfl⟩, ⟨Tryz.func155, by kernel_rfl, by kernel_rfl⟩, ⟨Tryz.func156, by kernel_rfl, by kernel_rfl⟩, ⟨Tryz.func157, by kernel_rfl, by kernel_rfl⟩, ⟨Tryz.func158, by kernel_rfl, by kernel_rfl⟩, ⟨Tryz.func159, by kernel_rfl, by kernel_rfl⟩, ⟨Tryz.func160, by kernel_rfl, by kernel_rfl⟩, ⟨Tryz.func161, by kernel_rfl, by kernel_rfl⟩, ⟨Tryz.func162, by kernel_rfl, by kernel_rfl⟩, ⟨Tryz.func163, by kernel_rfl, by kernel_rfl⟩, ⟨Tryz.func164, by kernel_rfl, by kernel_rfl⟩, ⟨Tryz.func165, by kernel_rfl, by kernel_rfl⟩, ⟨Tryz.func166, by kernel_rfl, by kernel_rfl⟩, ⟨Tryz.func167, by kernel_rfl, by kernel_rfl⟩, ⟨Tryz.func168, by kernel_rfl, by kernel_rfl⟩, ⟨Tryz.func169, by kernel_rfl, by kernel_rfl⟩, ⟨Tryz.func170, by kernel_rfl, by kernel_rfl⟩, ⟨Tryz.func171, by kernel_rfl, by kernel_rfl⟩, ⟨Tryz.func172, by kernel_rfl, by kernel_rfl⟩, ⟨Tryz.func173, by kernel_rfl, by kernel_rfl⟩, ⟨Tryz.func174, by kernel_rfl, by kernel_rfl⟩, ⟨Tryz.func175, by kernel_rfl, by kernel_rfl⟩, ⟨Tryz.func176, by kernel_rfl, by kernel_rfl⟩, ⟨Tryz.func177, by kernel_rfl, by kernel_rfl⟩, ⟨Tryz.func178, by kernel_rfl, by kernel_rfl⟩, ⟨Tryz.func179, by kernel_rfl, by kernel_rfl⟩, ⟨Tryz.func180, by kernel_rfl, by kernel_rfl⟩, ⟨Tryz.func181, by kernel_rfl, by kernel_rfl⟩, ⟨Tryz.func182, by kernel_rfl, by kernel_rfl⟩, ⟨Tryz.func183, by kernel_rfl, by kernel_rfl⟩, ⟨Tryz.func184, by kernel_rfl, by kernel_rfl⟩, trivial⟩
def ovTab : List (Nat × Sig) := [(6, ⟨[[.F]]⟩), (14, ⟨[[.F]]⟩), (23, ⟨[[.F]]⟩), (24, ⟨[[.O [], .O [], .O []], [.R]]⟩), (25, ⟨[[.F], [.R]]⟩), (41, ⟨[[.O [], .O [], .O []], [.R]]⟩), (54, ⟨[[.O [], .O [], .O []], [.R]]⟩), (55, ⟨[[.R, .R, .R, .O [.F, .F, .F, .F], .O [.F, .F], .R, .O [.F, .O [.F, .F, .F], .F, .O [.F, .F], .O [.F, .F, .F]], .O [.F, .F, .F, .F, .F], .O [.F, .F, .F, .F, .F], .O [.F, .F]], [.R, .R, .R, .R]]⟩), (56, ⟨[[.O [], .O [], .O []], [.R, .R, .R, .R, .R, .R, .R, .R, .R, .R]]⟩), (70, ⟨[[.O []]]⟩), (71, ⟨[[.F]]⟩), (72, ⟨[[.O []]]⟩), (81, ⟨[[.O []], [.R], [.R]]⟩), (82, ⟨[[.O []], [.R]]⟩), (86, ⟨[[.O [], .O [], .O []]]⟩), (87, ⟨[[.R, .R, .R, .O [.F, .F, .F, .F], .O [.F, .F], .R, .O [.F, .O [.F, .F, .F], .F, .O [.F, .F], .O [.F, .F, .F]], .O [.F, .F, .F, .F, .F], .O [.F, .F, .F, .F, .F], .O [.F, .F]], [.R]]⟩), (88, ⟨[[.R, .R, .R, .O [.F, .F, .F, .F], .O [.F, .F], .R, .O [.F, .O [.F, .F, .F], .F, .O [.F, .F], .O [.F, .F, .F]], .O [.F, .F, .F, .F, .F], .O [.F, .F, .F, .F, .F], .O [.F, .F]], [.R, .R, .R, .R]]⟩), (89, ⟨[[.R, .R, .R, .O [.F, .F, .F, .F], .O [.F, .F], .R, .O [.F, .O [.F, .F, .F], .F, .O [.F, .F], .O [.F, .F, .F]], .O [.F, .F, .F, .F, .F], .O [.F, .F, .F, .F, .F], .O [.F, .F]], [.R, .R, .R, .R]]⟩), (90, ⟨[[.R, .R, .R, .O [.F, .F, .F, .F], .O [.F, .F], .R, .O [.F, .O [.F, .F, .F], .F, .O [.F, .F], .O [.F, .F, .F]], .O [.F, .F, .F, .F, .F], .O [.F, .F, .F, .F, .F], .O [.F, .F]], [.R]]⟩), (92, ⟨[[.R, .R, .R, .O [.F, .F, .F, .F], .O [.F, .F], .R], [.R]]⟩), (93, ⟨[[.O [], .O [], .O []], [.R]]⟩), (94, ⟨[[.O [], .O [], .O []]]⟩), (108, ⟨[[.O [.F, .F], .O [.F, .F, .F]], [.R, .R, .R], [.R]]⟩), (112, ⟨[[.O []], [.R], [.O []]]⟩), (113, ⟨[[.O []], [.R]]⟩), (116, ⟨[[.R, .R, .R, .O [.F, .F, .F, .F], .O [.F, .F], .R], [.R]]⟩), (118, ⟨[[.R, .R, .R, .O [.F, .F, .F, .F], .O [.F, .F], .R, .O [.F, .O [.F, .F, .F], .F, .O [.F, .F], .O [.F, .F, .F]], .O [.F, .F, .F, .F, .F], .O [.F, .F, .F, .F, .F], .O [.F, .F]], [.R, .R, .R, .R, .R]]⟩), (119, ⟨[[.R, .R, .R, .O [.F, .F, .F, .F], .O [.F, .F], .R, .O [.F, .O [.F, .F, .F], .F, .O [.F, .F], .O [.F, .F, .F]], .O [.F, .F, .F, .F, .F], .O [.F, .F, .F, .F, .F], .O [.F, .F]], [.R]]⟩), (120, ⟨[[.R, .O [.F, .F, .F], .R, .O [.F, .F], .O [.F, .F, .F]], [.R]]⟩), (124, ⟨[[.O [], .O [], .O []]]⟩), (127, ⟨[[.O [.F, .F], .O [.F, .F, .F], .O [.F]], [.R, .R, .R]]⟩), (129, ⟨[[.F], [.R]]⟩), (145, ⟨[[.O []], [.R], [.R]]⟩), (152, ⟨[[.R, .R, .R, .O [.F, .F, .F, .F], .O [.F, .F], .R, .O [.F, .O [.F, .F, .F], .F, .O [.F, .F], .O [.F, .F, .F]], .O [.F, .F, .F, .F, .F], .O [.F, .F, .F, .F, .F], .O [.F, .F]], [.R, .R, .R, .R, .R]]⟩), (153, ⟨[[.R, .O [.F, .F, .F], .R, .O [.F, .F], .O [.F, .F, .F]], [.R], [.R]]⟩), (154, ⟨[[.R, .R, .R, .O [.F, .F, .F, .F], .O [.F, .F], .R], [.R], [.R], [.R]]⟩), (156, ⟨[[.O [], .O [], .O []]]⟩), (157, ⟨[[.O [], .O [], .O []], [.R]]⟩), (174, ⟨[[.R, .O [.F, .F, .F], .R, .O [.F, .F], .O [.F, .F, .F]], [.R], [.R]]⟩), (176, ⟨[[.R, .O [.F, .F, .F], .R, .O [.F, .F], .O [.F, .F, .F]], [.R, .R, .R]]⟩)]
def fzTab : List (Nat × Nat) := [(14, 7), (24, 8), (56, 15), (103, 7), (124, 5), (124, 14), (156, 4)]
def msTab : List (Nat × Nat × List M) := [(15, 20, [.F, .O [.F, .F, .F], .F, .O [.F, .F], .O [.F, .F, .F]]), (16, 21, [.F, .O [.F, .F, .F], .F, .O [.F, .F], .O [.F, .F, .F]]), (87, 32, [.F, .F]), (88, 29, [.F, .F, .F, .F, .F]), (88, 32, [.F, .F, .F, .F, .F]), (89, 76, [.F, .F, .F, .F, .F]), (90, 27, [.F, .F, .F, .F, .F]), (91, 5, [.F, .F, .F, .F, .F]), (92, 68, [.F, .F, .F, .F]), (99, 8, [.F, .F, .F]), (99, 25, [.F, .F, .F]), (108, 48, [.F, .F, .F]), (116, 25, [.F, .F, .F, .F, .F]), (116, 53, [.F, .F, .F, .F]), (118, 59, [.F, .F, .F, .F, .F]), (119, 9, [.F, .F, .F, .F, .F]), (119, 10, [.F, .F, .F, .F, .F]), (119, 32, [.F, .F, .F, .F, .F]), (119, 40, [.F, .F, .F, .F, .F]), (122, 10, [.F, .F, .F, .F, .F]), (122, 47, [.F, .F, .F, .F, .F]), (127, 53, [.F, .F, .F]), (127, 115, [.F, .F, .F]), (151, 8, [.F, .F, .F, .F, .F]), (151, 45, [.F, .F, .F, .F, .F]), (152, 43, [.F, .F, .F, .F, .F]), (176, 25, [.F, .F, .F])]
def castTab : List (Nat × Nat × List M) := []
def boxTab : List (Nat × Nat × List M) := [(3, 3, [.F, .F, .F, .O [.F, .F, .F, .O [.F]], .O [.F, .F], .F, .O [.F, .O [.F, .F, .F], .F, .O [.F, .F], .O [.F, .F, .F]], .O [.F, .F, .F, .F, .F], .O [.F, .F, .F, .F, .F], .O [.F, .F]]), (4, 4, [.F, .F, .F, .O [.F, .F, .F, .O [.F]], .O [.F, .F], .F, .O [.F, .O [.F, .F, .F], .F, .O [.F, .F], .O [.F, .F, .F]], .O [.F, .F, .F, .F, .F], .O [.F, .F, .F, .F, .F], .O [.F, .F]]), (6, 2, [.F, .F, .F, .O [.F, .F, .F, .F], .O [.F, .F], .F, .O [.F, .O [.F, .F, .F], .F, .O [.F, .F], .O [.F, .F, .F]], .O [.F, .F, .F, .F, .F], .O [.F, .F, .F, .F, .F], .O [.F, .F]]), (9, 6, [.F, .O [.F, .F, .F], .F, .O [.F, .F], .O [.F, .F, .F]]), (9, 8, [.F, .F, .O [.F, .F, .F]]), (10, 4, [.F, .O [.F, .F, .F], .F, .O [.F, .F], .O [.F, .F, .F]]), (10, 6, [.F, .F, .O [.F, .F, .F]]), (11, 4, [.F, .O [.F, .F, .F], .F, .O [.F, .F], .O [.F, .F, .F]]), (11, 6, [.F, .F, .O [.F, .F, .F]]), (13, 4, [.F, .O [.F, .F, .F], .F, .O [.F, .F], .O [.F, .F, .F]]), (15, 2, [.F, .F, .F, .O [.F, .F, .F, .O [.F]], .O [.F, .F], .F, .O [.F, .O [.F, .F, .F], .F, .O [.F, .F], .O [.F, .F, .F]], .O [.F, .F, .F, .F, .F], .O [.F, .F, .F, .F, .F], .O [.F, .F]]), (15, 8, [.F, .F, .F, .O [.F, .F, .F, .O [.F]], .O [.F, .F], .F, .O [.F, .O [.F, .F, .F], .F, .O [.F, .F], .O [.F, .F, .F]], .O [.F, .F, .F, .F, .F], .O [.F, .F, .F, .F, .F], .O [.F, .F]]), (15, 11, [.F, .F, .F, .O [.F, .F, .F, .O [.F]], .O [.F, .F], .F, .O [.F, .O [.F, .F, .F], .F, .O [.F, .F], .O [.F, .F, .F]], .O [.F, .F, .F, .F, .F], .O [.F, .F, .F, .F, .F], .O [.F, .F]]), (15, 3, [.F, .F, .F, .O [.F, .F, .F, .O [.F]], .O [.F, .F], .F, .O [.F, .O [.F, .F, .F], .F, .O [.F, .F], .O [.F, .F, .F]], .O [.F, .F, .F, .F, .F], .O [.F, .F, .F, .F, .F], .O [.F, .F]]), (16, 2, [.F, .F, .F, .O [.F, .F, .F, .F], .O [.F, .F], .F, .O [.F, .O [.F, .F, .F], .F, .O [.F, .F], .O [.F, .F, .F]], .O [.F, .F, .F, .F, .F], .O [.F, .F, .F, .F, .F], .O [.F, .F]]), (16, 8, [.F, .F, .F, .O [.F, .F, .F, .F], .O [.F, .F], .F, .O [.F, .O [.F, .F, .F], .F, .O [.F, .F], .O [.F, .F, .F]], .O [.F, .F, .F, .F, .F], .O [.F, .F, .F, .F, .F], .O [.F, .F]]), (16, 11, [.F, .F, .F, .O [.F, .F, .F, .F], .O [.F, .F], .F, .O [.F, .O [.F, .F, .F], .F, .O [.F, .F], .O [.F, .F, .F]], .O [.F, .F, .F, .F, .F], .O [.F, .F, .F, .F, .F], .O [.F, .F]]), (16, 3, [.F, .F, .F, .O [.F, .F, .F, .F], .O [.F, .F], .F, .O [.F, .O [.F, .F, .F], .F, .O [.F, .F], .O [.F, .F, .F]], .O [.F, .F, .F, .F, .F], .O [.F, .F, .F, .F, .F], .O [.F, .F]]), (18, 5, [.F, .O [.F, .F, .F], .F, .O [.F, .F], .O [.F, .F, .F]]), (19, 7, [.F, .O [.F, .F, .F]]), (21, 6, [.F, .O [.F, .F, .F], .F, .O [.F]]), (22, 2, [.F, .F, .F, .O [.F, .F, .F, .O [.F]], .O [.F, .F], .F]), (22, 6, [.F, .F, .F, .O [.F, .F, .F, .O [.F]], .O [.F, .F], .F]), (22, 8, [.F, .F, .F, .O [.F, .F, .F, .O [.F]], .O [.F, .F], .F]), (23, 30, [.O [.F], .F, .F]), (24, 4, [.F, .F, .F, .O [.F, .F, .F, .F], .O [.F, .F], .F, .O [.F, .O [.F, .F, .F], .F, .O [.F, .F], .O [.F, .F, .F]], .O [.F, .F, .F, .F, .F], .O [.F, .F, .F, .F, .F], .O [.F, .F]]), (24, 5, [.F, .F, .F, .O [.F, .F, .F, .F], .O [.F, .F], .F, .O [.F, .O [.F, .F, .F], .F, .O [.F, .F], .O [.F, .F, .F]], .O [.F, .F, .F, .F, .F], .O [.F, .F, .F, .F, .F], .O [.F, .F]]), (37, 7, [.F, .F, .O [.F, .F, .F]]), (39, 6, [.F, .F, .F, .O [.F, .F, .F], .F]), (40, 4, [.F, .O [.F, .F, .F]]), (40, 8, [.F, .O [.F, .F, .F], .F, .O [.F]]), (43, 2, [.F, .O [.F, .F, .F], .F, .O [.F, .F], .O [.F, .F, .F]]), (43, 6, [.F, .O [.F, .F, .F], .F, .O [.F, .F], .O [.F, .F, .F]]), (43, 8, [.F, .O [.F, .F, .F], .F, .O [.F, .F], .O [.F, .F, .F]]), (45, 2, [.F, .F, .F, .O [.F, .F, .F, .F], .O [.F, .F], .F]), (45, 6, [.F, .F, .F, .O [.F, .F, .F, .F], .O [.F, .F], .F]), (45, 8, [.F, .F, .F, .O [.F, .F, .F, .F], .O [.F, .F], .F]), (46, 2, [.F, .O [.F, .F, .F], .F, .O [.F, .F], .O [.F, .F, .F]]), (46, 6, [.F, .O [.F, .F, .F], .F, .O [.F, .F], .O [.F, .F, .F]]), (46, 8, [.F, .O [.F, .F, .F], .F, .O [.F, .F], .O [.F, .F, .F]]), (47, 5, [.F, .O [.F, .F, .F], .F, .O [.F, .F], .O [.F, .F, .F]]), (48, 5, [.F, .O [.F, .F, .F], .F, .O [.F]]), (56, 4, [.F, .F, .F, .O [.F, .F, .F]]), (56, 22, [.F, .F, .F, .O [.F, .F, .F]]), (56, 28, [.F, .F, .F, .O [.F, .F, .F]]), (56, 5, [.F, .F, .F, .O [.F, .F, .F]]), (56, 40, [.F, .F, .F, .O [.F, .F, .F]]), (56, 50, [.F, .F, .F, .O [.F, .F, .F]]), (56, 54, [.F, .F, .F, .O [.F, .F, .F]]), (56, 33, [.F, .F, .F, .O [.F, .F, .F]]), (66, 7, [.F, .O [.F, .F, .F], .F, .O [.F, .F], .O [.F, .F, .F]]), (74, 5, [.O [.F, .F], .O [.F, .F, .F]]), (74, 7, [.F, .F, .O [.F, .F, .F]]), (76, 8, [.F, .F, .O [.F, .F, .F]]), (76, 9, [.F, .F, .O [.F, .F, .F]]), (88, 5, [.F, .F, .F, .O [.F, .F, .F], .F]), (96, 5, [.F, .O [.F, .F, .F], .F, .O [.F]]), (99, 9, [.O [.F, .F], .O [.F, .F, .F], .O [.F]]), (116, 38, [.F, .O [.F, .F, .F], .F, .O [.F]]), (116, 6, [.F, .O [.F, .F, .F], .F, .O [.F]]), (121, 2, [.F, .F, .F, .O [.F, .F, .F], .F]), (142, 6, [.F, .F, .O [.F, .F, .F]]), (153, 12, [.F, .F, .O [.F, .F, .F]]), (153, 7, [.F, .F, .O [.F, .F, .F]]), (163, 2, [.F, .F, .O [.F, .F, .F]]), (176, 13, [.O [.F, .F], .O [.F, .F, .F], .O [.F]])]
def canTab : List (Nat × Nat × List M) := [(6, 0, [.F, .F, .F, .O [.F, .F, .F, .F], .O [.F, .F], .F, .O [.F, .O [.F, .F, .F], .F, .O [.F, .F], .O [.F, .F, .F]], .O [.F, .F, .F, .F, .F], .O [.F, .F, .F, .F, .F], .O [.F, .F]]), (15, 0, [.F, .F, .F, .O [.F, .F, .F, .O [.F]], .O [.F, .F], .F, .O [.F, .O [.F, .F, .F], .F, .O [.F, .F], .O [.F, .F, .F]], .O [.F, .F, .F, .F, .F], .O [.F, .F, .F, .F, .F], .O [.F, .F]]), (16, 0, [.F, .F, .F, .O [.F, .F, .F, .F], .O [.F, .F], .F, .O [.F, .O [.F, .F, .F], .F, .O [.F, .F], .O [.F, .F, .F]], .O [.F, .F, .F, .F, .F], .O [.F, .F, .F, .F, .F], .O [.F, .F]]), (18, 0, [.O [.F, .F]]), (19, 0, [.O [.F, .F]]), (22, 0, [.F, .F, .F, .O [.F, .F, .F, .O [.F]], .O [.F, .F], .F]), (23, 0, [.O [.F], .F, .F]), (24, 0, [.F, .F, .F, .O [.F, .F, .F, .F], .O [.F, .F], .F, .O [.F, .O [.F, .F, .F], .F, .O [.F, .F], .O [.F, .F, .F]], .O [.F, .F, .F, .F, .F], .O [.F, .F, .F, .F, .F], .O [.F, .F]]), (35, 0, [.O [.F, .F, .F]]), (36, 0, [.O [.F]]), (43, 0, [.F, .O [.F, .F, .F], .F, .O [.F, .F], .O [.F, .F, .F]]), (45, 0, [.F, .F, .F, .O [.F, .F, .F, .F], .O [.F, .F], .F]), (46, 0, [.F, .O [.F, .F, .F], .F, .O [.F, .F], .O [.F, .F, .F]]), (49, 0, [.O [.F, .F]]), (50, 0, [.O [.F, .F]]), (55, 1000, [.F, .F, .F, .O [.F, .F, .F, .F], .O [.F, .F], .F, .O [.F, .O [.F, .F, .F], .F, .O [.F, .F], .O [.F, .F, .F]], .O [.F, .F, .F, .F, .F], .O [.F, .F, .F, .F, .F], .O [.F, .F]]), (56, 0, [.F, .F, .F, .O [.F, .F, .F]]), (65, 0, [.O [.F, .F, .F]]), (71, 0, [.O [.F]]), (72, 0, [.O [.F]]), (74, 0, [.O [.F, .F]]), (74, 1, [.O [.F, .F, .F]]), (80, 0, [.O [.F, .F]]), (81, 0, [.O [.F, .F]]), (82, 0, [.O [.F, .F]]), (87, 1000, [.F, .F, .F, .O [.F, .F, .F, .F], .O [.F, .F], .F, .O [.F, .O [.F, .F, .F], .F, .O [.F, .F], .O [.F, .F, .F]], .O [.F, .F, .F, .F, .F], .O [.F, .F, .F, .F, .F], .O [.F, .F]]), (88, 1000, [.F, .F, .F, .O [.F, .F, .F, .F], .O [.F, .F], .F, .O [.F, .O [.F, .F, .F], .F, .O [.F, .F], .O [.F, .F, .F]], .O [.F, .F, .F, .F, .F], .O [.F, .F, .F, .F, .F], .O [.F, .F]]), (89, 1000, [.F, .F, .F, .O [.F, .F, .F, .F], .O [.F, .F], .F, .O [.F, .O [.F, .F, .F], .F, .O [.F, .F], .O [.F, .F, .F]], .O [.F, .F, .F, .F, .F], .O [.F, .F, .F, .F, .F], .O [.F, .F]]), (90, 1000, [.F, .F, .F, .O [.O []], .O [.O []], .F, .O [.O []], .O [.F, .F, .F, .F, .F], .O [.O []], .O [.O []]]), (91, 0, [.O [.F, .F, .F, .F, .F]]), (92, 1000, [.F, .F, .F, .O [.F, .F, .F, .F], .O [.F, .F], .F]), (94, 0, [.O [.F, .F, .F]]), (99, 0, [.O [.F, .F]]), (99, 1, [.O [.F, .F, .F]]), (103, 0, [.O [.F]]), (108, 1000, [.O [.F, .F], .O [.F, .F, .F]]), (112, 0, [.O [.F, .F]]), (113, 0, [.O [.F, .F]]), (116, 0, [.O [.F, .F, .F, .F, .F]]), (116, 1000, [.F, .F, .F, .O [.F, .F, .F, .F], .O [.F, .F], .F]), (117, 0, [.O [.F, .F, .F]]), (118, 1000, [.F, .F, .F, .O [.F, .F, .F, .F], .O [.F, .F], .F, .O [.F, .O [.F, .F, .F], .F, .O [.F, .F], .O [.F, .F, .F]], .O [.F, .F, .F, .F, .F], .O [.F, .F, .F, .F, .F], .O [.F, .F]]), (119, 0, [.O [.F, .F, .F, .F, .F]]), (119, 1, [.O [.F, .F, .F, .F, .F]]), (120, 1000, [.F, .O [.F, .F, .F], .F, .O [.F, .F], .O [.F, .F, .F]]), (121, 0, [.F, .F, .F, .O [.F, .F, .F], .F]), (122, 0, [.O [.F, .F, .F, .F, .F]]), (123, 0, [.O [.F, .F, .F]]), (127, 1000, [.O [.F, .F], .O [.F, .F, .F], .O [.F]]), (144, 0, [.O [.F, .F, .F]]), (145, 0, [.O [.F, .F, .F]]), (151, 0, [.O [.F, .F, .F, .F, .F]]), (152, 1000, [.F, .F, .F, .O [.F, .F, .F, .F], .O [.F, .F], .F, .O [.F, .O [.F, .F, .F], .F, .O [.F, .F], .O [.F, .F, .F]], .O [.F, .F, .F, .F, .F], .O [.F, .F, .F, .F, .F], .O [.F, .F]]), (153, 1000, [.F, .O [.F, .F, .F], .F, .O [.F, .F], .O [.F, .F, .F]]), (154, 1000, [.F, .F, .F, .O [.F, .F, .F, .F], .O [.F, .F], .F]), (163, 0, [.F, .F, .O [.F, .F, .F]]), (164, 0, [.O [.F, .F]]), (174, 1000, [.F, .O [.F, .F, .F], .F, .O [.F, .F], .O [.F, .F, .F]]), (176, 1000, [.F, .O [.F, .F, .F], .F, .O [.F, .F], .O [.F, .F, .F]]), (179, 0, [.O [.F, .F]]), (180, 0, [.O [.F, .F]])]
def cutTab : List (Nat × Nat × Nat) := [(92, 45, 1), (120, 39, 1)]
def rgTab : List (Nat × Nat × List (Nat × Nat)) := [(88, 7, [(0, 7)]), (127, 16, [(0, 1)])]
def retTab : List (Nat) := [129]
def prims : FuncId → Option (List Arg → R3 Ret) := fun f => cond (Nat.beq f 9) (some primNoSplit) <| cond (Nat.beq f 70) (some primBad) <| cond (Nat.beq f 72) (some primBad) <| cond (Nat.beq f 80) (some (primClone [.sc (.str), .sc (.str)])) <| cond (Nat.beq f 112) (some primBad) <| cond (Nat.beq f 113) (some primBad) <| cond (Nat.beq f 144) (some primBad) <| cond (Nat.beq f 145) (some primBad) <| none

def look3 {α : Type} (d : α) (f x : Nat) : List (Nat × Nat × α) → α
  | [] => d
  | (a, b, c) :: r => cond (Nat.beq f a && Nat.beq x b) c (look3 d f x r)
def CX : Ctx where
  ty := tabFn tyTab
  fn := fun f => lookF f fnTab
  sig := sigTab tyTab fnTab ovTab
  own := fun f d => !(fzTab.any fun x => Nat.beq x.1 f && Nat.beq x.2 d)
  ms := fun f d => look3 [] f d msTab
  cut := fun f d => look3 0 f d cutTab
  cast := fun f d => look3 [] f d castTab
  box := fun f d => look3 [] f d boxTab
  rg := fun f d => look3 [] f d rgTab
  ret := fun f => retTab.any (Nat.beq f)
  can := fun f q => look3 [] f q canTab
end
end Go.Proofs.YtjjonejgbdbnjaaGreat

