/- A part of the proof: texts EPrim6, EIns1, EIns, RH: see the last part's opening words. -/
import Derived.Test.YtjjonejgbdbnjaaE3
import Derived.Shelf.SlicesE.Clone
import Derived.Shelf.RegionOpenPlain
import Derived.Lib.AppendZerosOnto
import Derived.Lib.Overlaps
import Derived.Laws.Externs
import Derived.Laws.IdiomCopy
import Derived.Lib.JoinLaws
import Derived.Lib.AppendZeros
import Derived.Shelf.Spec.SlicesInsert
import Derived.Test.YtjjonejgbdbnjaaProg
set_option linter.unusedVariables false
set_option linter.unusedSimpArgs false
set_option linter.unnecessarySimpa false
namespace Go.Proofs
open Go Go.Shelf Go.RowKit Go.Lib
variable {P : Program} {ρ : Ren}
set_option maxHeartbeats 2000000 in
set_option maxRecDepth 100000 in
/-- slices.Clone of no rows, wherever they lie -/
theorem clone_zero (L : SlLaysE0.n41 P ρ) (i0 : TypeInfo) (z : Value) (size bytes : Nat) (hi : P.info? (ρ.t 23) = some i0) (hz0 : i0.zero = some z) (hz1 : i0.size = size) (hz2 : i0.bytes = bytes) (hzs : z.cells.size = size) (hsz : 0 < size)
    (z23 : ∀ w, (Go.sizeOf (ρ.t 23)).run P w = .ok size w) (ad : Addr) (c : Nat) (w : World) :
    Calls P (ρ.f 41) #[.slice (some ad) 0 c] w fun e w' => ∃ v', e = .returned v' ∧ w'.ownsRow w.heap.size (ρ.t 23) size v' 0 [] ∧ Below w.heap.size w w' := by
  have mixed := L.mixed; have t4 := L.t4; have a4 := L.a4; have z4 := L.z4; have v4 := L.v4; have t22 := L.t22; have a22 := L.a22; have z22 := L.z22; have v22 := L.v22
  have q22 : ∀ (w : World) (a : Option Addr) (n c n' c' : Nat), (binOp .eql (ρ.t 22) (.slice a n c) (.slice none n' c')).run P w = .ok (.bool a.isNone) w := fun w a n c n' c' => Lib.run_eql_slice_nil w _ _ a n c n' c' L.t22
  have u22 : ∀ w, Sem.run P (underlying (ρ.t 22)) w = .ok (TypeDesc.slice (ρ.t 23)) w := run_underlying t22
  obtain ⟨_, _, FG⟩ := L.f41
  go_enter FG, SlBodyN.n41_ntmps ρ
  go_wp2_with (at_builtin; refine wpList_append_own _ rfl _ _ (ρ.t 22) rfl w.heap.size (ρ.t 23) i0 z size bytes t22 hi hz0 hz1 hz2 hzs hsz _ _ _ rfl (World.ownsRow_made w #[] 0 (Nat.le_refl _) (Nat.zero_le _) (by simp)) ad 0 c [] rfl ?qc1 ?qc2 ?qc3 ?qc4 ?qc5 ?qc6 ?_)
  case qc1 => simp
  case qc2 => intro j u hj; simp at hj
  case qc3 => intro u hu; cases hu
  case qc4 => simp
  case qc5 => simp
  case qc6 => simp
  intro v' w1 hown hgrow hnil
  go_wp2
  go_ret
  refine ⟨v', rfl, by simpa using hown, ?_⟩
  exact ((Below.refl _ w).alloc (Nat.le_refl _) _).grown hgrow (by simp) (by intro k hk; simp [Value.ownBlock] at hk; omega)
end Go.Proofs
namespace Go.E
open Go Go.Shelf Go.Proofs Go.RowKit
section
variable {g0 : Gh} {I A : Foot} {w w' : World} {vs : Array Value} {es : List LT} {ms : List M} {rows : List (List T)}
/-- a contract that hands back a new chunk -/
theorem ret_new {args : List Arg} {h : Value} {F : Foot} (hp : Pre g0 I A args w vs) (hb : Below w.heap.size w w') (hrow : RowOwn w' I es ms rows h F) (hF : ∀ b o, F b o → w.heap.size ≤ b) (hs : Single h) :
    RetR g0 I A args w ⟨[.one (.own [7000000] es ms rows)], [[none]], []⟩ (g0.set [7000000] h F) I w' h := by
  have hno : ∀ {i j : Nat} {x : List LT × List M × List (List T)}, ownOf ⟨[.one (.own [7000000] es ms rows)], [[none]], []⟩ i j ≠ some x := by
    intro i j x
    match i, j with
    | 0, 0 => simp [ownOf]
    | 0, j + 1 => simp [ownOf]
    | i + 1, j => simp [ownOf]
  have hk1 := keeps_below hb (fun _ _ => True)
  refine ⟨⟨[h], rfl, ⟨hs, ?_⟩, trivial⟩, fun i j es1 ms1 rows1 h => absurd h hno, fun i ls h => by simp [bxOf] at h, by simp [retKeys, keysOfR], fun k hk i j hij => ?_, fun k k' h h' hne => absurd ((take1_out h).trans (take1_out h').symm) hne, fun k h => ?_, fun k h => ?_, fun _ _ h => h, fun _ _ h _ => h, fun b o hi => ?_, hk1.weaken fun _ _ _ => trivial⟩
  · exact ⟨by rw [Gh.set_h], by rw [Gh.set_F]; exact hrow⟩
  · rcases hij with ⟨y, h⟩ | ⟨-, ls, h⟩
    · exact absurd h hno
    · simp [bxOf] at h
  · rw [take1_out h, Gh.set_F]
    intro b o hf hi
    have := cell_lt (hp.iwf b o hi)
    have := hF b o hf
    omega
  · rw [take1_out h, Gh.set_F]
    intro b o hf hi
    have := cell_lt (hp.awf b o hi)
    have := hF b o hf
    omega
  · obtain ⟨v, hv⟩ := hp.iwf b o hi
    exact ⟨v, (hk1.cell trivial ⟨v, hv⟩).trans hv⟩
/-- rows that a call has made -/
theorem own_made {S : Foot} {el : TypeId} {v : Value} {news : List Value} {base : Nat} (hes : es ≠ []) (hm : noO ms) (hmax : rows.length ≤ maxCells) (hr : RowsV w' I es rows news) (ho : w'.ownsRow base el es.length v rows.length news) :
    ∃ F, RowOwn w' I es ms rows v F ∧ (∀ b o, F b o → base ≤ b) ∧ Single v := by
  obtain ⟨hl, ⟨rfl, h0⟩ | ⟨g, cap, cur, rfl, hb, hg, hc, -, hsz, ht⟩⟩ := ho
  · have : rows = [] := List.length_eq_zero_iff.1 h0
    subst this
    exact ⟨fun _ _ => False, RowOwn.nil hes fun _ _ h => h, fun _ _ h => h.elim, ⟨fun _ h => (nomatch h), fun _ h => (nomatch h)⟩⟩
  · refine ⟨fun b o => b = g ∧ o < cur.size, RowOwn.mk' (bs := []) hes hmax hc hg hsz (fun o ho => by omega) ?_ ⟨fun h => (nomatch h), trivial⟩ (fun b' o' => ⟨.inl, fun h => h.elim (fun h => h) fun h => (nomatch h.1)⟩), fun b o h => h.1 ▸ hb, ⟨fun _ h => (nomatch h), fun _ h => (nomatch h)⟩⟩
    refine RowsOf.cells (hr.toM hm) ?_
    rw [← hl, List.take_length, hl]; exact ht
end
def primClone (es : List LT) : List Arg → R3 Ret
  | [.one (.dz es' rows)] => cond (LT.beqs es es' && flatLs es && Nat.ble es.length 1000) (cond (decide (rows.length * es.length ≤ maxRow)) (.ok ⟨[.one (.own [7000000] es (es.map fun _ => .F) rows)], [[none]], []⟩) .bad) .bad
  | [.one (.fz es' rows)] => cond (LT.beqs es es' && flatLs es && Nat.ble es.length 1000) (cond (decide (rows.length * es.length ≤ maxRow)) (.ok ⟨[.one (.own [7000000] es (es.map fun _ => .F) rows)], [[none]], []⟩) .bad) .bad
  | _ => .bad
theorem zeroVs_len : ∀ {lts : List LT} {vs : List Value}, zeroVs lts vs → vs.length = lts.length
  | [], [], _ => rfl
  | _ :: _, _ :: _, h => by simp [zeroVs_len h.2]
  | [], _ :: _, h => h.elim
  | _ :: _, [], h => h.elim
theorem primClone_ok {Γ : Ctx} {P : Program} {ρ : Shelf.Ren} (hΓ : CtxOk Γ P) (L : SlLaysE0.n41 P ρ) {te : TI} (hte : Γ.ty (ρ.t 23) = some te) (hne : te.lts ≠ []) {args : List Arg} (h : primClone te.lts args ≠ .bad) : FnOk P (ρ.f 41) args (primClone te.lts args) := by
  have htok := hΓ.ty _ _ hte
  obtain ⟨i0, hi1, hi2, hi3, hi4, hi5, z, hz, hzs⟩ := htok.info
  have hzl := zeroVs_len hzs
  have key : ∀ (S : Foot) (arg : Arg) (rows : List (List T)) (g0 : Gh) (I A : Foot) (w : World) (vs : Array Value), Pre g0 I A [arg] w vs → (∀ v, ArgR g0 w I 0 arg v → LeafR w S (.sl te.lts) v (.l rows)) →
      flatLs te.lts = true → te.lts.length ≤ 1000 → rows.length * te.lts.length ≤ maxRow →
      Calls P (ρ.f 41) vs w fun
        | .returned v, w' => ∃ ret g' I', R3.ok (⟨[.one (.own [7000000] te.lts (te.lts.map fun _ => .F) rows)], [[none]], []⟩ : Ret) = .ok ret ∧ RetR g0 I A [arg] w ret g' I' w' v
        | .panicked _, _ => False
        | .outgrown, _ => False := by
    intro S arg rows g0 I A w vs hp hv hf hle hmr
    obtain ⟨v, rfl, hav⟩ : ∃ v, vs = #[v] ∧ ArgR g0 w I 0 arg v := by
      have hrel := hp.rel
      match hl : vs.toList, hrel with
      | [v], hrel => exact ⟨v, Array.toList_inj.1 (by simpa using hl), hrel.1⟩
      | [], hrel => exact hrel.elim
      | _ :: _ :: _, hrel => exact hrel.2.elim
    obtain ⟨aa, cap, news, rfl, hcap, hmax, hnl, hrv, hplace⟩ := leaf_cells (hv v hav)
    have hone : ∀ u ∈ news, u.oneCell' = true := fun u hu => (hrv.single hnl u hu).one
    have hpos : 0 < te.lts.length := List.length_pos_iff.2 hne
    have fin : ∀ (v' : Value) (w' : World), w'.ownsRow w.heap.size (ρ.t 23) te.lts.length v' rows.length news → Below w.heap.size w w' →
        ∃ ret g' I', R3.ok (⟨[.one (.own [7000000] te.lts (te.lts.map fun _ => .F) rows)], [[none]], []⟩ : Ret) = .ok ret ∧ RetR g0 I A [arg] w ret g' I' w' v' := by
      intro v' w' ho hb
      obtain ⟨F, h1, h2, h3⟩ := own_made (I := I) (S := S) hne (noO_F te.lts) hmax (hrv.flat hf) ho
      exact ⟨_, _, _, rfl, ret_new hp hb h1 h2 h3⟩
    cases aa with
    | none =>
      refine (AnyE.slices_Clone_nil L rows.length cap w).mono fun e w' ⟨he, hw⟩ => ?_
      subst he hw
      have hr0 : rows = [] := by
        rcases hplace with h | ⟨b, o, h, -⟩
        · exact h
        · cases h
      subst hr0
      exact fin _ _ ⟨by simpa using hnl, .inl ⟨rfl, rfl⟩⟩ (Below.refl _ _)
    | some ad =>
      rcases hplace with hr0 | ⟨b, o, h, hc, -⟩
      · subst hr0
        have hn0 : news = [] := List.length_eq_zero_iff.1 (by simpa using hnl)
        subst hn0
        refine (clone_zero L i0 z te.lts.length i0.bytes hi1 hz hi2 rfl (by rw [← Array.length_toList]; exact hzl) hpos (fun w => run_sizeOf htok) ad cap w).mono fun e w' ⟨v', he, ho, hb⟩ => ?_
        subst he
        exact fin v' w' ho hb
      · cases h
        refine (AnyE.slices_Clone L i0 z te.lts.length i0.bytes hi1 hz hi2 rfl (by rw [← Array.length_toList]; exact hzl) hpos (fun w => run_sizeOf htok) b o rows.length cap news w hnl (by unfold maxLen; unfold maxCells at hmax; omega) ?_ ?_ hone).mono fun e w' ⟨v', he, ho, _, hb⟩ => ?_
        · have h1 : rows.length * i0.bytes ≤ rows.length * (24 * te.lts.length) := Nat.mul_le_mul_left _ hi5
          have h2 : rows.length * (24 * te.lts.length) = 24 * (rows.length * te.lts.length) := by rw [Nat.mul_left_comm]
          unfold maxRow at hmr
          omega
        · intro j u hu
          obtain ⟨hj, rfl⟩ := List.getElem?_eq_some_iff.1 hu
          exact hc.get j hj
        · subst he
          exact fin v' w' ho hb
  unfold primClone at h ⊢
  split at h
  · rename_i es' rows
    cases hc : (LT.beqs te.lts es' && flatLs te.lts && Nat.ble te.lts.length 1000) with
    | false => rw [hc] at h; exact absurd rfl h
    | true =>
      cases hm : decide (rows.length * te.lts.length ≤ maxRow) with
      | false => rw [hc, hm] at h; exact absurd rfl h
      | true =>
        simp only [Bool.and_eq_true] at hc
        have := LT.beqs_eq hc.1.1
        subst this
        intro g0 I A w vs hp
        exact key (ID g0 I) _ rows g0 I A w vs hp (fun v hv => hv) hc.1.2 (Nat.le_of_ble_eq_true hc.2) (of_decide_eq_true hm)
  · rename_i es' rows
    cases hc : (LT.beqs te.lts es' && flatLs te.lts && Nat.ble te.lts.length 1000) with
    | false => rw [hc] at h; exact absurd rfl h
    | true =>
      cases hm : decide (rows.length * te.lts.length ≤ maxRow) with
      | false => rw [hc, hm] at h; exact absurd rfl h
      | true =>
        simp only [Bool.and_eq_true] at hc
        have := LT.beqs_eq hc.1.1
        subst this
        intro g0 I A w vs hp
        exact key I _ rows g0 I A w vs hp (fun v hv => hv) hc.1.2 (Nat.le_of_ble_eq_true hc.2) (of_decide_eq_true hm)
  · exact absurd rfl h
end Go.E

namespace Go.E
open Go Go.Proofs Go.RowKit Go.Lib
theorem run_copyK {P : Program} {w : World} {dT sT ty elem : TypeId} {k : Nat} (hu : P.underlying dT = some (.slice elem)) (hs : (P.info? elem).map (·.size) = some k) {b o dLen dCap : Nat} {a : Addr} {sLen sCap : Nat} {cs : List Value} {c : Array Value} {el : TypeId} {fz : Nat × Nat}
    (hB : Block w b c el fz) (hn : cs.length = min sLen dLen * k) (hsrc : ∀ j v, cs[j]? = some v → w.cell? (a.add j) = some v) (hc : o + cs.length ≤ c.size) (hfz : ∀ o, o ≤ c.size → ¬ (fz.1 ≤ o ∧ o < fz.2)) (h1 : ∀ v ∈ cs, Single v) :
    (Builtin.copy_ #[dT, sT] ty #[.slice (some ⟨b, o, none⟩) dLen dCap, .slice (some a) sLen sCap]).run P w = .ok (goInt ((Nat.min sLen dLen : Nat) : Int)) (World.put w b (c.toList.take o ++ cs ++ c.toList.drop (o + cs.length)).toArray el fz) := by
  obtain ⟨c', hst, hc'⟩ := run_storeCells (P := P) cs 0 o c w hB (by simpa using hc) h1 (fun j hj => hfz _ (by omega))
  have hl := run_loadCells_list (P := P) w a cs hsrc
  rw [hn] at hl
  have hcc : c' = (c.toList.take o ++ cs ++ c.toList.drop (o + cs.length)).toArray := by
    rw [Nat.add_zero] at hc'
    rw [← hc']
  rw [← hcc]
  cases hq : P.info? elem with
  | none => simp [hq] at hs
  | some i =>
    have hi : i.size = k := by simpa [hq] using hs
    simp [Builtin.copy_, run_underlying hu, Builtin.lenOf, Builtin.firstCells, sizeOf, typeInfo, hq, hi, hl, hst]
theorem ins_list {α : Type} (C cs vs : List α) (a : Nat) (h : a + vs.length + cs.length ≤ C.length) :
    (((C.take (a + vs.length) ++ cs ++ C.drop (a + vs.length + cs.length)).take a ++ vs ++ (C.take (a + vs.length) ++ cs ++ C.drop (a + vs.length + cs.length)).drop (a + vs.length)).take (a + vs.length + cs.length)) = C.take a ++ vs ++ cs := by
  have h1 : (C.take (a + vs.length)).length = a + vs.length := by rw [List.length_take]; omega
  have e1 : (C.take (a + vs.length) ++ cs ++ C.drop (a + vs.length + cs.length)).take a = C.take a := by
    rw [List.append_assoc, List.take_append_of_le_length (by omega), List.take_take]
    congr 1; omega
  have e2 : (C.take (a + vs.length) ++ cs ++ C.drop (a + vs.length + cs.length)).drop (a + vs.length) = cs ++ C.drop (a + vs.length + cs.length) := by
    rw [List.append_assoc, List.drop_append_of_le_length (by omega), List.drop_eq_nil_of_le (by omega), List.nil_append]
  rw [e1, e2, ← List.append_assoc, List.take_append_of_le_length (by simp; omega), List.take_of_length_le (by simp; omega)]
theorem append_roomK {P : Program} {w : World} {t tx ty el : TypeId} {inf : TypeInfo} {k : Nat} (ht : P.underlying t = some (.slice el)) (hi : P.info? el = some inf) (hk : inf.size = k) {b sLen sCap m : Nat} {x : Value} {news : List Value} (hs : Src P k tx x m news w)
    (hroom : sLen + m ≤ sCap) {c : Array Value} {el' : TypeId} {fz : Nat × Nat} (hblk : Block w b c el' fz) (hcs : sLen * k + news.length ≤ c.size) (hsg : ∀ v ∈ news, Single v) (hfz : ∀ o, o ≤ c.size → ¬ (fz.1 ≤ o ∧ o < fz.2)) :
    (Builtin.append_ #[t, tx] ty #[.slice (some ⟨b, 0, none⟩) sLen sCap, x]).run P w = .ok (.slice (some ⟨b, 0, none⟩) (sLen + m) sCap) (World.put w b (c.toList.take (sLen * k) ++ news ++ c.toList.drop (sLen * k + news.length)).toArray el' fz) := by
  subst hk
  obtain ⟨c', h1, h2⟩ := run_append_room_own (ty := ty) ht hi hs hroom hblk hcs hsg hfz
  have : c' = (c.toList.take (sLen * inf.size) ++ news ++ c.toList.drop (sLen * inf.size + news.length)).toArray := by rw [← h2]
  rw [← this]
  exact h1
theorem put_alloc {w : World} {c c' : Array Value} {t : TypeId} : World.put (w.alloc (.cells c t)) w.heap.size c' t (0, 0) = w.alloc (.cells c' t) := by
  show ({ heap := (w.heap.push _).setIfInBounds _ _, tape := _, drawn := _, os := _, output := _ } : World) = { heap := w.heap.push _, tape := _, drawn := _, os := _, output := _ }
  congr 1
  apply Array.ext_getElem?
  intro j
  rw [Array.getElem?_setIfInBounds]
  by_cases hj : w.heap.size = j
  · subst hj; simp
  · rw [if_neg hj]
    by_cases hl : j < w.heap.size
    · rw [Array.getElem?_push_lt hl, Array.getElem?_push_lt hl]
    · rw [Array.getElem?_eq_none (by simp; omega), Array.getElem?_eq_none (by simp; omega)]
theorem block_alloc {w : World} {c : Array Value} {t : TypeId} : Block (w.alloc (.cells c t)) w.heap.size c t (0, 0) := by
  show (w.heap.push _)[w.heap.size]? = _
  simp
theorem block_alloc_old {w : World} {c c' : Array Value} {t t' : TypeId} {b : Nat} {fz : Nat × Nat} (h : Block w b c' t' fz) : Block (w.alloc (.cells c t)) b c' t' fz := by
  have hl := (Array.getElem?_eq_some_iff.1 h).1
  show (w.heap.push _)[b]? = _
  rw [Array.getElem?_push_lt hl]
  rw [← Array.getElem?_eq_getElem hl]
  exact h
theorem cellP {w : World} {b : Nat} {c : Array Value} {el : TypeId} {fz : Nat × Nat} (hB : Block w b c el fz) (o : Nat) : w.cell? ⟨b, o, none⟩ = c[o]? := by
  unfold World.cell?
  simp only [show w.heap[({ block := b, off := o } : Addr).block]? = some (.cells c el fz) from hB]
  rfl
theorem put_other {w : World} {b b' : Nat} {c : Array Value} {el : TypeId} {fz : Nat × Nat} {c' : Array Value} {el' : TypeId} {fz' : Nat × Nat} (h : Block w b' c' el' fz') (hne : b' ≠ b) : Block (World.put w b c el fz) b' c' el' fz' := by
  unfold Block World.put
  simp only
  rw [Array.getElem?_setIfInBounds_ne (Ne.symm hne)]
  exact h
theorem put_put {w : World} {b : Nat} {c c' : Array Value} {el : TypeId} {fz : Nat × Nat} : World.put (World.put w b c el fz) b c' el fz = World.put w b c' el fz := by
  unfold World.put
  simp
end Go.E

namespace Go.E
open Go Go.Proofs Go.RowKit Go.Lib
/-- slices.Insert, as it was walked at a program -/
structure InsRuns (P : Program) (f : FuncId) (k by' : Nat) (te : TypeId) : Prop where
  shift : ∀ {b n cap i vb m vc : Nat} {c : Array Value} {el : TypeId} {fz : Nat × Nat} {vs : List Value} {cv : Array Value} {elv : TypeId} {fv : Nat × Nat} {w : World}, Block w b c el fz → c.size = cap * k → (∀ o, o ≤ c.size → ¬ (fz.1 ≤ o ∧ o < fz.2)) → (∀ v ∈ c.toList.take (n * k), Single v) →
    Block w vb cv elv fv → (∀ o, o ≤ cv.size → ¬ (fv.1 ≤ o ∧ o < fv.2)) → vb ≠ b → vs.length = m * k → cv.size = vc * k → m ≤ vc → cv.toList.take (m * k) = vs → (∀ v ∈ vs, Single v) → i < n → 0 < m → n + m ≤ cap → n + m ≤ 9223372036854775807 →
    Calls P f #[.slice (some ⟨b, 0, none⟩) n cap, .int .i64 i, .slice (some ⟨vb, 0, none⟩) m vc] w fun e w' => e = .returned (.slice (some ⟨b, 0, none⟩) (n + m) cap) ∧ ∃ c' q, w' = (World.put w b c' el fz).drewN q ∧ c'.size = c.size ∧
      c'.toList.take ((n + m) * k) = c.toList.take (i * k) ++ vs ++ (c.toList.take (n * k)).drop (i * k)
  room : ∀ {b n cap vb m vc : Nat} {c : Array Value} {el : TypeId} {fz : Nat × Nat} {vs : List Value} {cv : Array Value} {elv : TypeId} {fv : Nat × Nat} {w : World}, Block w b c el fz → c.size = cap * k → (∀ o, o ≤ c.size → ¬ (fz.1 ≤ o ∧ o < fz.2)) →
    Block w vb cv elv fv → vs.length = m * k → cv.toList.take (m * k) = vs → (∀ v ∈ vs, Single v) → 0 < m → n + m ≤ cap → n + m ≤ 9223372036854775807 →
    Calls P f #[.slice (some ⟨b, 0, none⟩) n cap, .int .i64 n, .slice (some ⟨vb, 0, none⟩) m vc] w fun e w' => e = .returned (.slice (some ⟨b, 0, none⟩) (n + m) cap) ∧ ∃ c' q, w' = (World.put w b c' el fz).drewN q ∧ c'.size = c.size ∧
      c'.toList.take ((n + m) * k) = c.toList.take (n * k) ++ vs ++ (c.toList.take (n * k)).drop (n * k)
  endg : ∀ {base : Option Addr} {n cap vb m vc : Nat} {olds vs : List Value} {cv : Array Value} {elv : TypeId} {fv : Nat × Nat} {w : World}, n ≤ cap → (Builtin.firstCells k n (.slice base n cap)).run P w.drew = .ok olds.toArray w.drew → olds.length = n * k →
    Block w vb cv elv fv → vs.length = m * k → cv.toList.take (m * k) = vs → (∀ v ∈ vs, Single v) → 0 < m → cap < n + m → (n + m) * by' ≤ 140737488355328 →
    Calls P f #[.slice base n cap, .int .i64 n, .slice (some ⟨vb, 0, none⟩) m vc] w fun e w' => e = .returned (.slice (some ⟨w.heap.size, 0, none⟩) (n + m) (grownCap w (n + m) cap te)) ∧ ∃ c' q, w' = (w.alloc (.cells c' te)).drewN q ∧ c'.size = grownCap w (n + m) cap te * k ∧ n + m ≤ grownCap w (n + m) cap te ∧
      c'.toList.take ((n + m) * k) = olds ++ vs
  grow : ∀ {b n cap i vb m vc : Nat} {c : Array Value} {el : TypeId} {fz : Nat × Nat} {vs : List Value} {cv : Array Value} {elv : TypeId} {fv : Nat × Nat} {w : World}, Block w b c el fz → c.size = cap * k → n ≤ cap → (∀ v ∈ c.toList.take (n * k), Single v) →
    Block w vb cv elv fv → vs.length = m * k → cv.toList.take (m * k) = vs → (∀ v ∈ vs, Single v) → i < n → 0 < m → cap < n + m → (n + m) * by' ≤ 140737488355328 →
    Calls P f #[.slice (some ⟨b, 0, none⟩) n cap, .int .i64 i, .slice (some ⟨vb, 0, none⟩) m vc] w fun e w' => e = .returned (.slice (some ⟨w.heap.size, 0, none⟩) (n + m) (grownCap w (n + m) cap te)) ∧ ∃ c' q, w' = (w.alloc (.cells c' te)).drewN q ∧ c'.size = grownCap w (n + m) cap te * k ∧ n + m ≤ grownCap w (n + m) cap te ∧
      c'.toList.take ((n + m) * k) = c.toList.take (i * k) ++ vs ++ (c.toList.take (n * k)).drop (i * k)
section
variable {g0 : Gh} {I A : Foot} {w w' : World} {vs : Array Value} {es : List LT} {ms : List M} {rows : List (List T)}
/-- a contract that hands back rows that it owns, in the block of an argument or in a new one -/
theorem ret_own {args : List Arg} {owns : List (List (Option (List LT × List M × List (List T))))} {h : Value} {F : Foot} (hno' : ∀ i j, ownOf ⟨[.one (.own [7000000] es ms rows)], owns, []⟩ i j = none) (hp : Pre g0 I A args w vs) (hk : Keeps (fun b o => I b o ∨ A b o) w w')
    (hrow : RowOwn w' I es ms rows h F) (hI : Foot.apart F I) (hA : Foot.apart F A) (hs : Single h) :
    RetR g0 I A args w ⟨[.one (.own [7000000] es ms rows)], owns, []⟩ (g0.set [7000000] h F) I w' h := by
  have hno : ∀ {i j : Nat} {x : List LT × List M × List (List T)}, ownOf ⟨[.one (.own [7000000] es ms rows)], owns, []⟩ i j ≠ some x := by
    intro i j x
    rw [hno']
    exact fun h => nomatch h
  have hout : ∀ {k : Key}, Out ⟨[.one (.own [7000000] es ms rows)], owns, []⟩ k → k = [7000000] := by
    intro k h
    rcases h with h | ⟨i, j, ⟨y, h⟩ | ⟨-, ls, h⟩, rfl⟩
    · simpa [retKeys, keysOfR] using h
    · exact absurd h hno
    · simp [bxOf] at h
  refine ⟨⟨[h], rfl, ⟨hs, ?_⟩, trivial⟩, fun i j es1 ms1 rows1 h => absurd h hno, fun i ls h => by simp [bxOf] at h, by simp [retKeys, keysOfR], fun k hk i j hij => ?_, fun k k' h h' hne => absurd ((hout h).trans (hout h').symm) hne, fun k h => ?_, fun k h => ?_, fun _ _ h => h, fun _ _ h _ => h, fun b o hi => ?_, hk⟩
  · exact ⟨by rw [Gh.set_h], by rw [Gh.set_F]; exact hrow⟩
  · rcases hij with ⟨y, h⟩ | ⟨-, ls, h⟩
    · exact absurd h hno
    · simp [bxOf] at h
  · rw [hout h, Gh.set_F]; exact hI
  · rw [hout h, Gh.set_F]; exact hA
  · obtain ⟨v, hv⟩ := hp.iwf b o hi
    exact ⟨v, (hk.cell (.inl hi) ⟨v, hv⟩).trans hv⟩
theorem noO_map (es : List LT) : noO (es.map fun _ => M.F) := fun m hm x => by
  obtain ⟨_, -, rfl⟩ := List.mem_map.1 hm
  exact fun h => nomatch h
/-- flat rows that are owned -/
theorem own_flat {I F : Foot} {h : Value} (hf : flatLs es = true) (hr : RowOwn w I es ms rows h F) :
    es ≠ [] ∧ rows.length ≤ maxCells ∧ (((∃ a, h = .slice a 0 0) ∧ rows = [] ∧ ∀ b o, ¬ F b o) ∨
      ∃ b cap c el fz, h = .slice (some ⟨b, 0, none⟩) rows.length cap ∧ rows.length ≤ cap ∧ Block w b c el fz ∧ c.size = cap * es.length ∧ (∀ o, o ≤ c.size → ¬ (fz.1 ≤ o ∧ o < fz.2)) ∧ (∀ o, o < c.size → F b o) ∧
        ∀ J i, RowsV w J es (rows.take i) (c.toList.take (i * es.length)) ∧ RowsV w J es (rows.drop i) ((c.toList.take (rows.length * es.length)).drop (i * es.length))) := by
  obtain ⟨h1, h2, h3 | ⟨b, cap, c, el, fz, bs, e1, hcap, hB, hsz, hfz, hro, -, hF⟩⟩ := hr.cases
  · exact ⟨h1, h2, .inl h3⟩
  · refine ⟨h1, h2, .inr ⟨b, cap, c, el, fz, e1, hcap, hB, hsz, hfz, fun o ho => (hF b o).2 (.inl ⟨rfl, ho⟩), fun J i => ?_⟩⟩
    obtain ⟨b1, b2, -, ha, hb⟩ := RowsOf.split i hro
    have ha' := RowsOf.cells (cs' := c.toList.take (i * es.length)) ha (by rw [List.take_take, List.length_take]; congr 1; exact Nat.min_eq_left (Nat.mul_le_mul_right _ (Nat.min_le_left _ _)))
    have hb' := RowsOf.cells (cs' := (c.toList.take (rows.length * es.length)).drop (i * es.length)) hb (by
      rw [List.length_drop, Nat.sub_mul, List.take_drop, List.take_drop, List.take_take]
      by_cases hle : i * es.length ≤ rows.length * es.length
      · rw [Nat.add_sub_of_le hle, Nat.min_self]
      · rw [Nat.sub_eq_zero_of_le (by omega), Nat.add_zero, Nat.min_eq_right (by omega)]
        rw [List.drop_eq_nil_of_le (by rw [List.length_take]; omega), List.drop_eq_nil_of_le (by rw [List.length_take]; omega)])
    exact ⟨(RowsOf.toV (S := fun _ _ => True) (fun _ _ _ => trivial) (fun _ _ _ => trivial) ha').flat hf, (RowsOf.toV (S := fun _ _ => True) (fun _ _ _ => trivial) (fun _ _ _ => trivial) hb').flat hf⟩
end
def primInsert (es : List LT) : List Arg → R3 Ret
  | [.one (.own es1 _ rows), .one (.sc (.int .i64) d), .one (.own es2 _ vs)] =>
    cond (LT.beqs es es1 && LT.beqs es es2) (cond (decide (0 ≤ d.int ∧ d.int ≤ (rows.length : Int)) && decide (0 < vs.length) && decide ((rows.length + vs.length) * es.length ≤ maxRow))
      (.ok ⟨[.one (.own [7000000] es (es.map fun _ => .F) (rows.take d.int.toNat ++ vs ++ rows.drop d.int.toNat))], [[none], [none], [none]], []⟩) .bad) .bad
  | _ => .bad
theorem primInsert_ok {P : Program} {f : FuncId} {es : List LT} {by' : Nat} {te : TypeId} (hf : flatLs es = true) (hb : by' ≤ 16 * es.length) (L : InsRuns P f es.length by' te) {args : List Arg} (h : primInsert es args ≠ .bad) : FnOk P f args (primInsert es args) := by
  unfold primInsert at h ⊢
  split at h
  · rename_i es1 ms rows d es2 ms2 vs
    cases hc : (LT.beqs es es1 && LT.beqs es es2) with
    | false => rw [hc] at h; exact absurd rfl h
    | true =>
      cases hm : (decide (0 ≤ d.int ∧ d.int ≤ (rows.length : Int)) && decide (0 < vs.length) && decide ((rows.length + vs.length) * es.length ≤ maxRow)) with
      | false => rw [hc, hm] at h; exact absurd rfl h
      | true =>
        simp only [Bool.and_eq_true] at hc hm
        obtain rfl := LT.beqs_eq hc.1
        obtain rfl := LT.beqs_eq hc.2
        obtain ⟨⟨hd, hv0⟩, hmr⟩ := hm
        have hd := of_decide_eq_true hd
        have hv0 := of_decide_eq_true hv0
        have hmr := of_decide_eq_true hmr
        intro g0 I A w vals hp
        obtain ⟨v1, v2, v3, rfl, h1, h2, h3⟩ : ∃ v1 v2 v3, vals = #[v1, v2, v3] ∧ AlR g0 w I 0 0 (.own es ms rows) v1 ∧ ScR (.int .i64) v2 d ∧ AlR g0 w I 2 0 (.own es ms2 vs) v3 := by
          have hrel := hp.rel
          match hl : vals.toList, hrel with
          | [v1, v2, v3], hrel => exact ⟨v1, v2, v3, Array.toList_inj.1 (by simpa using hl), hrel.1, hrel.2.1, hrel.2.2.1⟩
          | [], hrel => exact hrel.elim
          | [_], hrel => exact hrel.2.elim
          | [_, _], hrel => exact hrel.2.2.elim
          | _ :: _ :: _ :: _ :: _, hrel => exact hrel.2.2.2.elim
        obtain ⟨e1, hr1⟩ := h1
        obtain ⟨n2, rfl, rfl, -, -⟩ := h2
        obtain ⟨e3, hr3⟩ := h3
        simp only [T.int] at hd ⊢
        have hh0 : Held [.one (.own es ms rows), .one (.sc (.int .i64) (.i n2)), .one (.own es ms2 vs)] [0, 0] := trivial
        have hh2 : Held [.one (.own es ms rows), .one (.sc (.int .i64) (.i n2)), .one (.own es ms2 vs)] [2, 0] := trivial
        obtain ⟨hes, hmax, ho1⟩ := own_flat hf hr1
        obtain ⟨-, hmax3, ho3⟩ := own_flat hf hr3
        have hk0 : 0 < es.length := List.length_pos_iff.2 hes
        obtain ⟨i, rfl⟩ : ∃ i : Nat, n2 = (i : Int) := ⟨n2.toNat, by omega⟩
        have hi : i ≤ rows.length := by omega
        have hno : ∀ a b, ownOf ⟨[.one (.own [7000000] es (es.map fun _ => .F) (rows.take i ++ vs ++ rows.drop i))], [[none], [none], [none]], []⟩ a b = none := fun a b => by
          unfold ownOf
          match a, b with
          | 0, 0 => rfl
          | 0, j + 1 => rfl
          | 1, 0 => rfl
          | 1, j + 1 => rfl
          | 2, 0 => rfl
          | 2, j + 1 => rfl
          | a + 3, j => rfl
        rcases ho3 with ⟨-, rfl, -⟩ | ⟨vb, vc, cv, elv, fv, e3', hcv, hBv, hszv, hfzv, hFv, hRv⟩
        · simp at hv0
        rw [e3'] at e3
        have hRv0 := fun J => (hRv J vs.length).1
        rw [List.take_length] at hRv0
        obtain ⟨vcs, hvcs⟩ : ∃ vcs, vcs = cv.toList.take (vs.length * es.length) := ⟨_, rfl⟩
        have htl : ∀ (c : Array Value) (n cap : Nat), c.size = cap * es.length → n ≤ cap → (c.toList.take (n * es.length)).length = n * es.length := fun c n cap h1 h2 => by
          have := Nat.mul_le_mul_right es.length h2
          rw [List.length_take]
          simp only [Array.length_toList]
          omega
        have hvl : vcs.length = vs.length * es.length := by rw [hvcs]; exact htl cv _ _ hszv hcv
        rw [← hvcs] at hRv0
        have hSv : ∀ v ∈ vcs, Single v := (hRv0 I).single hvl
        have hbig : (rows.length + vs.length) * by' ≤ 140737488355328 := by
          have h1 : (rows.length + vs.length) * by' ≤ (rows.length + vs.length) * (16 * es.length) := Nat.mul_le_mul_left _ hb
          have h2 : (rows.length + vs.length) * (16 * es.length) = 16 * ((rows.length + vs.length) * es.length) := by rw [Nat.mul_left_comm]
          unfold maxRow at hmr
          omega
        have hcap63 : rows.length + vs.length ≤ 9223372036854775807 := by
          have := Nat.le_mul_of_pos_right (rows.length + vs.length) hk0
          unfold maxRow at hmr
          omega
        have hle1 : (rows.length + vs.length) ≤ (rows.length + vs.length) * es.length := Nat.le_mul_of_pos_right _ hk0
        have hmaxr : (rows.take i ++ vs ++ rows.drop i).length = rows.length + vs.length := by simp; omega
        have fin : ∀ (W' : World) (b cap : Nat) (c' : Array Value) (el : TypeId) (fz : Nat × Nat) (F : Foot) (pre post : List Value), Block W' b c' el fz → c'.size = cap * es.length → (∀ o, o ≤ c'.size → ¬ (fz.1 ≤ o ∧ o < fz.2)) → rows.length + vs.length ≤ cap →
            c'.toList.take ((rows.length + vs.length) * es.length) = pre ++ vcs ++ post → (∀ J, RowsV w J es (rows.take i) pre) → pre.length = i * es.length → (∀ J, RowsV w J es (rows.drop i) post) → (∀ b' o, F b' o ↔ b' = b ∧ o < c'.size) →
            RowOwn W' I es (es.map fun _ => .F) (rows.take i ++ vs ++ rows.drop i) (.slice (some ⟨b, 0, none⟩) (rows.length + vs.length) cap) F := by
          intro W' b cap c' el fz F pre post hB hsz hfz hcap ht hpre hprel hpost hF
          rw [← hmaxr]
          have r1 := (((hpre I).flat (w' := W') (I' := I) hf).app (by rw [hprel, List.length_take, Nat.min_eq_left hi]) ((hRv0 I).flat (w' := W') (I' := I) hf))
          have r2 := r1.app (by rw [List.length_append, hprel, hvl, List.length_append, List.length_take, Nat.min_eq_left hi, Nat.add_mul]) ((hpost I).flat (w' := W') (I' := I) hf)
          rw [← ht] at r2
          have r3 := r2.tail (cs' := c'.toList.drop ((rows.length + vs.length) * es.length))
          rw [List.take_append_drop] at r3
          exact RowOwn.mk' (bs := []) hes (by rw [hmaxr]; unfold maxCells; unfold maxRow at hmr; omega) (by rw [hmaxr]; exact hcap) hB hsz hfz (r3.toM (noO_map es)) ⟨fun h => (nomatch h), trivial⟩
            (fun b' o => (hF b' o).trans ⟨.inl, fun h => h.elim (fun h => h) fun h => (nomatch h.1)⟩)
        have hsingle : ∀ (a : Option Addr) (n c : Nat), Single (.slice a n c) := fun _ _ _ => ⟨fun _ h => (nomatch h), fun _ h => (nomatch h)⟩
        -- in the block of the argument
        have inplace : ∀ (b cap : Nat) (c c' : Array Value) (el : TypeId) (fz : Nat × Nat) (q : Nat), Block w b c el fz → c.size = cap * es.length → (∀ o, o ≤ c.size → ¬ (fz.1 ≤ o ∧ o < fz.2)) → (∀ o, o < c.size → g0.F [0, 0] b o) → rows.length + vs.length ≤ cap → c'.size = c.size →
            (∀ J i, RowsV w J es (rows.take i) (c.toList.take (i * es.length)) ∧ RowsV w J es (rows.drop i) ((c.toList.take (rows.length * es.length)).drop (i * es.length))) →
            c'.toList.take ((rows.length + vs.length) * es.length) = c.toList.take (i * es.length) ++ vcs ++ (c.toList.take (rows.length * es.length)).drop (i * es.length) →
            ∃ ret g' I', R3.ok (⟨[.one (.own [7000000] es (es.map fun _ => .F) (rows.take i ++ vs ++ rows.drop i))], [[none], [none], [none]], []⟩ : Ret) = .ok ret ∧ RetR g0 I A [.one (.own es ms rows), .one (.sc (.int .i64) (.i (i : Int))), .one (.own es ms2 vs)] w ret g' I' ((World.put w b c' el fz).drewN q) (.slice (some ⟨b, 0, none⟩) (rows.length + vs.length) cap) := by
          intro b cap c c' el fz q hB hsz hfz hF hcap hs' hR ht
          have hB' : Block ((World.put w b c' el fz).drewN q) b c' el fz := put_block hB
          have hRow := fin _ b cap c' el fz (fun b' o => b' = b ∧ o < c'.size) _ _ hB' (by omega) (by rw [hs']; exact hfz) hcap ht (fun J => (hR J i).1) (htl c _ _ hsz (by omega)) (fun J => (hR J i).2) (fun _ _ => Iff.rfl)
          refine ⟨_, _, I, rfl, ret_own hno hp ?_ hRow (fun b' o h1 h2 => ?_) (fun b' o h1 h2 => ?_) (hsingle _ _ _)⟩
          · refine Keeps.trans (fun _ _ h => h) (put_keeps hB hs' (A := fun b o => I b o ∨ A b o) fun o ho => ?_) ((keeps_drawn _ _).weaken fun _ _ _ => trivial)
            by_cases hlt : o < c.size
            · exact absurd (hF o hlt) (fun h => ho.elim (hp.imm _ hh0 b o h) (hp.frm _ hh0 b o h))
            · rw [Array.getElem?_eq_none (by omega), Array.getElem?_eq_none (by omega)]
          · obtain ⟨rfl, h1⟩ := h1
            exact hp.imm _ hh0 _ o (hF o (by omega)) h2
          · obtain ⟨rfl, h1⟩ := h1
            exact hp.frm _ hh0 _ o (hF o (by omega)) h2
        -- in a new block
        have anew : ∀ (cap : Nat) (c' : Array Value) (q : Nat) (pre post : List Value), c'.size = cap * es.length → rows.length + vs.length ≤ cap → c'.toList.take ((rows.length + vs.length) * es.length) = pre ++ vcs ++ post → (∀ J, RowsV w J es (rows.take i) pre) → pre.length = i * es.length → (∀ J, RowsV w J es (rows.drop i) post) →
            ∃ ret g' I', R3.ok (⟨[.one (.own [7000000] es (es.map fun _ => .F) (rows.take i ++ vs ++ rows.drop i))], [[none], [none], [none]], []⟩ : Ret) = .ok ret ∧ RetR g0 I A [.one (.own es ms rows), .one (.sc (.int .i64) (.i (i : Int))), .one (.own es ms2 vs)] w ret g' I' ((w.alloc (.cells c' te)).drewN q) (.slice (some ⟨w.heap.size, 0, none⟩) (rows.length + vs.length) cap) := by
          intro cap c' q pre post hsz hcap ht hpre hprel hpost
          have hB' : Block ((w.alloc (.cells c' te)).drewN q) w.heap.size c' te (0, 0) := block_alloc
          have hRow := fin _ _ cap c' te (0, 0) (fun b' o => b' = w.heap.size ∧ o < c'.size) pre post hB' hsz (fun o _ => by simp) hcap ht hpre hprel hpost (fun _ _ => Iff.rfl)
          refine ⟨_, _, I, rfl, ret_own hno hp ?_ hRow (fun b' o h1 h2 => ?_) (fun b' o h1 h2 => ?_) (hsingle _ _ _)⟩
          · exact Keeps.trans (fun _ _ h => h) ((keeps_push w _).weaken fun _ _ _ => trivial) ((keeps_drawn _ _).weaken fun _ _ _ => trivial)
          · obtain ⟨rfl, -⟩ := h1
            exact absurd (cell_lt (hp.iwf _ o h2)) (by omega)
          · obtain ⟨rfl, -⟩ := h1
            exact absurd (cell_lt (hp.awf _ o h2)) (by omega)
        rcases ho1 with ⟨⟨aa, e1'⟩, rfl, -⟩ | ⟨b, cap, c, el, fz, e1', hcap, hB, hsz, hfz, hFb, hR⟩
        · rw [e1', e3']
          have h0 : i = 0 := by simpa using hi
          subst h0
          have hnil : (Builtin.firstCells es.length 0 (.slice aa 0 0)).run P w.drew = .ok ([] : List Value).toArray w.drew := by
            cases aa with
            | none => exact run_firstCells_none w.drew es.length 0 0 0
            | some a => exact run_firstCells_some w.drew es.length 0 a 0 0 [] (by simp) (by simp)
          refine (L.endg (base := aa) (n := 0) (cap := 0) (Nat.le_refl _) hnil (by simp) hBv hvl hvcs.symm hSv hv0 (by omega) (by simpa using hbig)).mono ?_
          rintro e w' ⟨rfl, c', q, rfl, h2, h3, h4⟩
          have := anew _ c' q [] [] (by simpa using h2) (by simpa using h3) (by simpa using h4) (fun J => trivial) (by simp) (fun J => trivial)
          simpa using this
        · rw [e1', e3']
          have hScells : ∀ v ∈ c.toList.take (rows.length * es.length), Single v := by
            have := (hR I rows.length).1
            rw [List.take_length] at this
            exact this.single (htl c _ _ hsz hcap)
          have hne : vb ≠ b := by
            intro e
            subst e
            have hh := hp.sep [0, 0] [2, 0] hh0 hh2 (by decide)
            have hcc : (Obj.cells c el fz) = Obj.cells cv elv fv := Option.some.inj (hB.symm.trans hBv)
            obtain ⟨rfl, -, -⟩ := Obj.cells.inj hcc
            have h0 : 0 < c.size := by rw [hszv]; exact Nat.mul_pos (by omega) hk0
            exact hh vb 0 (hFb 0 h0) (hFv 0 h0)
          by_cases hin : i = rows.length
          · subst hin
            by_cases hroom : rows.length + vs.length ≤ cap
            · refine (L.room hB hsz hfz hBv hvl hvcs.symm hSv hv0 hroom hcap63).mono ?_
              rintro e w' ⟨rfl, c', q, rfl, h2, h3⟩
              exact inplace b cap c c' el fz q hB hsz hfz hFb hroom h2 hR h3
            · have hold : (Builtin.firstCells es.length rows.length (.slice (some ⟨b, 0, none⟩) rows.length cap)).run P w.drew = .ok (c.toList.take (rows.length * es.length)).toArray w.drew :=
                run_firstCells_some w.drew es.length rows.length ⟨b, 0, none⟩ rows.length cap _ (htl c _ _ hsz hcap) (fun j v hj => by
                  rw [Go.E.addr_add, Nat.zero_add]
                  show w.cell? _ = _
                  rw [cellP hB]
                  rw [List.getElem?_take] at hj
                  split at hj
                  · simpa using hj
                  · cases hj)
              refine (L.endg (base := some ⟨b, 0, none⟩) hcap hold (htl c _ _ hsz hcap) hBv hvl hvcs.symm hSv hv0 (by omega) hbig).mono ?_
              rintro e w' ⟨rfl, c', q, rfl, h2, h3, h4⟩
              refine anew _ c' q (c.toList.take (rows.length * es.length)) [] h2 h3 (by rw [List.append_nil]; exact h4) (fun J => (hR J rows.length).1) (htl c _ _ hsz hcap) (fun J => by rw [List.drop_length]; trivial)
          · have hlt : i < rows.length := by omega
            by_cases hroom : rows.length + vs.length ≤ cap
            · refine (L.shift hB hsz hfz hScells hBv hfzv hne hvl hszv hcv hvcs.symm hSv hlt hv0 hroom hcap63).mono ?_
              rintro e w' ⟨rfl, c', q, rfl, h2, h3⟩
              exact inplace b cap c c' el fz q hB hsz hfz hFb hroom h2 hR h3
            · refine (L.grow hB hsz hcap hScells hBv hvl hvcs.symm hSv hlt hv0 (by omega) hbig).mono ?_
              rintro e w' ⟨rfl, c', q, rfl, h2, h3, h4⟩
              exact anew _ c' q _ _ h2 h3 h4 (fun J => (hR J i).1) (htl c _ _ hsz (by omega)) (fun J => (hR J i).2)
  · exact absurd rfl h
end Go.E

namespace Go.Proofs.Ytjjonejgbdbnjaa
open Go Go.E Go.Proofs
noncomputable section
def tyTab : List (Option TI) := [
  none,
  some ⟨.other, [.sc (.any)], 8, false⟩,
  some ⟨.sc (.int .i64), [.sc (.int .i64)], 8, false⟩,
  some ⟨.sc (.int .i64), [.sc (.int .i64)], 8, false⟩,
  some ⟨.sc (.bool), [.sc (.bool)], 1, false⟩,
  some ⟨.sc (.int .u8), [.sc (.int .u8)], 1, false⟩,
  some ⟨.sc (.int .u8), [.sc (.int .u8)], 1, false⟩,
  some ⟨.struct [(0, 2), (1, 3), (2, 4), (3, 6)], [.sc (.int .i64), .sc (.int .i64), .sc (.bool), .sc (.int .u8)], 24, true⟩,
  some ⟨.struct [(0, 2), (1, 3), (2, 4), (3, 6)], [.sc (.int .i64), .sc (.int .i64), .sc (.bool), .sc (.int .u8)], 24, true⟩,
  some ⟨.sc (.str), [.sc (.str)], 16, false⟩,
  some ⟨.sc (.str), [.sc (.str)], 16, false⟩,
  some ⟨.sc (.str), [.sc (.str)], 16, false⟩,
  some ⟨.sc (.int .u64), [.sc (.int .u64)], 8, false⟩,
  some ⟨.struct [(0, 9), (1, 12)], [.sc (.str), .sc (.int .u64)], 24, false⟩,
  some ⟨.struct [(0, 9), (1, 12)], [.sc (.str), .sc (.int .u64)], 24, false⟩,
  some ⟨.ptr 149, [.sc (.any)], 8, false⟩,
  some ⟨.ptr 152, [.sc (.any)], 8, false⟩,
  some ⟨.ptr 161, [.sc (.any)], 8, false⟩,
  some ⟨.struct [(0, 17)], [.sc (.any)], 8, false⟩,
  some ⟨.struct [(0, 17)], [.sc (.any)], 8, false⟩,
  some ⟨.other, [.sc (.any)], 16, false⟩,
  some ⟨.sc (.int .i32), [.sc (.int .i32)], 4, false⟩,
  some ⟨.slice 5, [.sl [.sc (.int .u8)]], 24, false⟩,
  some ⟨.other, [.sc (.any)], 8, false⟩,
  some ⟨.slice 105, [.sl [.sc (.int .i64), .sl [.sc (.int .i64), .sc (.str), .sc (.str)], .sc (.int .i64), .sl [.sc (.int .i64)]]], 24, false⟩,
  some ⟨.slice 131, [.sl [.sc (.int .i64), .sc (.bool)]], 24, false⟩,
  some ⟨.struct [(0, 3), (1, 3), (2, 3), (3, 24), (4, 25), (5, 3)], [.sc (.int .i64), .sc (.int .i64), .sc (.int .i64), .sl [.sc (.int .i64), .sl [.sc (.int .i64), .sc (.str), .sc (.str)], .sc (.int .i64), .sl [.sc (.int .i64)]], .sl [.sc (.int .i64), .sc (.bool)], .sc (.int .i64)], 80, false⟩,
  some ⟨.struct [(0, 3), (1, 3), (2, 3), (3, 24), (4, 25), (5, 3)], [.sc (.int .i64), .sc (.int .i64), .sc (.int .i64), .sl [.sc (.int .i64), .sl [.sc (.int .i64), .sc (.str), .sc (.str)], .sc (.int .i64), .sl [.sc (.int .i64)]], .sl [.sc (.int .i64), .sc (.bool)], .sc (.int .i64)], 80, false⟩,
  some ⟨.slice 49, [.sl [.sc (.int .i64), .sl [.sc (.int .i64), .sc (.int .i64), .sl [.sc (.int .i64), .sc (.str), .sc (.str)]], .sc (.int .i64), .sl [.sc (.str), .sc (.str)], .sl [.sc (.int .i64), .sc (.int .i64), .sl [.sc (.int .i64), .sc (.str), .sc (.str)]]]], 24, false⟩,
  some ⟨.slice 94, [.sl [.sc (.int .i64), .sc (.int .i64), .sc (.int .i64), .sl [.sc (.int .i64), .sc (.str), .sc (.str)], .sc (.bool)]], 24, false⟩,
  some ⟨.slice 92, [.sl [.sc (.int .i64), .sl [.sc (.int .i64), .sc (.str), .sc (.str)]]], 24, false⟩,
  some ⟨.struct [(0, 27), (6, 28), (7, 29), (8, 29), (9, 30)], [.sc (.int .i64), .sc (.int .i64), .sc (.int .i64), .sl [.sc (.int .i64), .sl [.sc (.int .i64), .sc (.str), .sc (.str)], .sc (.int .i64), .sl [.sc (.int .i64)]], .sl [.sc (.int .i64), .sc (.bool)], .sc (.int .i64), .sl [.sc (.int .i64), .sl [.sc (.int .i64), .sc (.int .i64), .sl [.sc (.int .i64), .sc (.str), .sc (.str)]], .sc (.int .i64), .sl [.sc (.str), .sc (.str)], .sl [.sc (.int .i64), .sc (.int .i64), .sl [.sc (.int .i64), .sc (.str), .sc (.str)]]], .sl [.sc (.int .i64), .sc (.int .i64), .sc (.int .i64), .sl [.sc (.int .i64), .sc (.str), .sc (.str)], .sc (.bool)], .sl [.sc (.int .i64), .sc (.int .i64), .sc (.int .i64), .sl [.sc (.int .i64), .sc (.str), .sc (.str)], .sc (.bool)], .sl [.sc (.int .i64), .sl [.sc (.int .i64), .sc (.str), .sc (.str)]]], 176, false⟩,
  some ⟨.struct [(0, 27), (6, 28), (7, 29), (8, 29), (9, 30)], [.sc (.int .i64), .sc (.int .i64), .sc (.int .i64), .sl [.sc (.int .i64), .sl [.sc (.int .i64), .sc (.str), .sc (.str)], .sc (.int .i64), .sl [.sc (.int .i64)]], .sl [.sc (.int .i64), .sc (.bool)], .sc (.int .i64), .sl [.sc (.int .i64), .sl [.sc (.int .i64), .sc (.int .i64), .sl [.sc (.int .i64), .sc (.str), .sc (.str)]], .sc (.int .i64), .sl [.sc (.str), .sc (.str)], .sl [.sc (.int .i64), .sc (.int .i64), .sl [.sc (.int .i64), .sc (.str), .sc (.str)]]], .sl [.sc (.int .i64), .sc (.int .i64), .sc (.int .i64), .sl [.sc (.int .i64), .sc (.str), .sc (.str)], .sc (.bool)], .sl [.sc (.int .i64), .sc (.int .i64), .sc (.int .i64), .sl [.sc (.int .i64), .sc (.str), .sc (.str)], .sc (.bool)], .sl [.sc (.int .i64), .sl [.sc (.int .i64), .sc (.str), .sc (.str)]]], 176, false⟩,
  some ⟨.other, [.sc (.any)], 8, false⟩,
  some ⟨.slice 39, [.sl [.sc (.str), .sc (.str)]], 24, false⟩,
  some ⟨.other, [.sc (.any)], 8, false⟩,
  none,
  some ⟨.other, [.sc (.any)], 8, false⟩,
  some ⟨.struct [(0, 9), (1, 9)], [.sc (.str), .sc (.str)], 32, true⟩,
  some ⟨.struct [(0, 9), (1, 9)], [.sc (.str), .sc (.str)], 32, true⟩,
  some ⟨.other, [.sc (.any)], 8, false⟩,
  some ⟨.slice 55, [.sl [.sl [.sc (.str), .sc (.str)]]], 24, false⟩,
  some ⟨.other, [.sc (.any)], 8, false⟩,
  some ⟨.ptr 57, [.sc (.any)], 8, false⟩,
  some ⟨.other, [.sc (.any)], 8, false⟩,
  some ⟨.other, [.sc (.any)], 8, false⟩,
  some ⟨.other, [.sc (.any)], 8, false⟩,
  some ⟨.slice 101, [.sl [.sc (.int .i64), .sc (.int .i64), .sl [.sc (.int .i64), .sc (.str), .sc (.str)]]], 24, false⟩,
  some ⟨.struct [(0, 3), (1, 47), (2, 3), (3, 34), (4, 47)], [.sc (.int .i64), .sl [.sc (.int .i64), .sc (.int .i64), .sl [.sc (.int .i64), .sc (.str), .sc (.str)]], .sc (.int .i64), .sl [.sc (.str), .sc (.str)], .sl [.sc (.int .i64), .sc (.int .i64), .sl [.sc (.int .i64), .sc (.str), .sc (.str)]]], 88, false⟩,
  some ⟨.struct [(0, 3), (1, 47), (2, 3), (3, 34), (4, 47)], [.sc (.int .i64), .sl [.sc (.int .i64), .sc (.int .i64), .sl [.sc (.int .i64), .sc (.str), .sc (.str)]], .sc (.int .i64), .sl [.sc (.str), .sc (.str)], .sl [.sc (.int .i64), .sc (.int .i64), .sl [.sc (.int .i64), .sc (.str), .sc (.str)]]], 88, false⟩,
  some ⟨.other, [.sc (.any)], 8, false⟩,
  some ⟨.other, [.sc (.any)], 8, false⟩,
  some ⟨.other, [.sc (.any)], 8, false⟩,
  some ⟨.other, [.sc (.any)], 8, false⟩,
  some ⟨.struct [(0, 34)], [.sl [.sc (.str), .sc (.str)]], 24, false⟩,
  some ⟨.struct [(0, 34)], [.sl [.sc (.str), .sc (.str)]], 24, false⟩,
  some ⟨.struct [(0, 22), (1, 3), (2, 3)], [.sl [.sc (.int .u8)], .sc (.int .i64), .sc (.int .i64)], 40, false⟩,
  some ⟨.struct [(0, 22), (1, 3), (2, 3)], [.sl [.sc (.int .u8)], .sc (.int .i64), .sc (.int .i64)], 40, false⟩,
  some ⟨.other, [.sc (.any)], 8, false⟩,
  some ⟨.other, [.sc (.any)], 8, false⟩,
  some ⟨.slice 3, [.sl [.sc (.int .i64)]], 24, false⟩,
  some ⟨.other, [.sc (.any)], 8, false⟩,
  some ⟨.other, [.sc (.any)], 8, false⟩,
  some ⟨.ptr 32, [.sc (.any)], 8, false⟩,
  some ⟨.slice 108, [.sl [.sc (.int .i64), .sc (.str), .sc (.str)]], 24, false⟩,
  some ⟨.struct [(0, 3), (1, 3), (2, 3), (3, 64)], [.sc (.int .i64), .sc (.int .i64), .sc (.int .i64), .sl [.sc (.int .i64), .sc (.str), .sc (.str)]], 48, false⟩,
  some ⟨.struct [(0, 3), (1, 3), (2, 3), (3, 64)], [.sc (.int .i64), .sc (.int .i64), .sc (.int .i64), .sl [.sc (.int .i64), .sc (.str), .sc (.str)]], 48, false⟩,
  some ⟨.other, [.sc (.any)], 8, false⟩,
  some ⟨.other, [.sc (.any)], 8, false⟩,
  some ⟨.other, [.sc (.any)], 8, false⟩,
  some ⟨.other, [.sc (.any)], 8, false⟩,
  some ⟨.other, [.sc (.any)], 8, false⟩,
  some ⟨.other, [.sc (.any)], 8, false⟩,
  some ⟨.other, [.sc (.any)], 8, false⟩,
  some ⟨.other, [.sc (.any)], 8, false⟩,
  some ⟨.other, [.sc (.any)], 8, false⟩,
  some ⟨.other, [.sc (.any)], 8, false⟩,
  some ⟨.other, [.sc (.any)], 8, false⟩,
  some ⟨.other, [.sc (.any)], 8, false⟩,
  some ⟨.other, [.sc (.any)], 8, false⟩,
  some ⟨.ptr 27, [.sc (.any)], 8, false⟩,
  some ⟨.other, [.sc (.any)], 8, false⟩,
  some ⟨.other, [.sc (.any)], 8, false⟩,
  some ⟨.other, [.sc (.any)], 8, false⟩,
  some ⟨.other, [.sc (.any)], 8, false⟩,
  some ⟨.other, [.sc (.any)], 8, false⟩,
  some ⟨.sc (.int .u32), [.sc (.int .u32)], 4, false⟩,
  some ⟨.sc (.int .u64), [.sc (.int .u64)], 8, false⟩,
  none,
  some ⟨.other, [.sc (.any)], 8, false⟩,
  some ⟨.other, [.sc (.any)], 8, false⟩,
  some ⟨.struct [(0, 3), (1, 64)], [.sc (.int .i64), .sl [.sc (.int .i64), .sc (.str), .sc (.str)]], 32, false⟩,
  some ⟨.struct [(0, 3), (1, 64)], [.sc (.int .i64), .sl [.sc (.int .i64), .sc (.str), .sc (.str)]], 32, false⟩,
  some ⟨.struct [(0, 3), (1, 3), (2, 3), (3, 64), (4, 4)], [.sc (.int .i64), .sc (.int .i64), .sc (.int .i64), .sl [.sc (.int .i64), .sc (.str), .sc (.str)], .sc (.bool)], 56, false⟩,
  some ⟨.struct [(0, 3), (1, 3), (2, 3), (3, 64), (4, 4)], [.sc (.int .i64), .sc (.int .i64), .sc (.int .i64), .sl [.sc (.int .i64), .sc (.str), .sc (.str)], .sc (.bool)], 56, false⟩,
  some ⟨.other, [.sc (.any)], 8, false⟩,
  some ⟨.ptr 49, [.sc (.any)], 8, false⟩,
  none,
  some ⟨.other, [.sc (.any)], 8, false⟩,
  some ⟨.other, [.sc (.any)], 8, false⟩,
  some ⟨.struct [(0, 3), (1, 3), (2, 64)], [.sc (.int .i64), .sc (.int .i64), .sl [.sc (.int .i64), .sc (.str), .sc (.str)]], 40, false⟩,
  some ⟨.struct [(0, 3), (1, 3), (2, 64)], [.sc (.int .i64), .sc (.int .i64), .sl [.sc (.int .i64), .sc (.str), .sc (.str)]], 40, false⟩,
  some ⟨.other, [.sc (.any)], 8, false⟩,
  some ⟨.other, [.sc (.any)], 8, false⟩,
  some ⟨.struct [(0, 3), (1, 64), (2, 3), (3, 60)], [.sc (.int .i64), .sl [.sc (.int .i64), .sc (.str), .sc (.str)], .sc (.int .i64), .sl [.sc (.int .i64)]], 64, false⟩,
  some ⟨.struct [(0, 3), (1, 64), (2, 3), (3, 60)], [.sc (.int .i64), .sl [.sc (.int .i64), .sc (.str), .sc (.str)], .sc (.int .i64), .sl [.sc (.int .i64)]], 64, false⟩,
  some ⟨.other, [.sc (.any)], 8, false⟩,
  some ⟨.struct [(0, 3), (1, 9), (2, 9)], [.sc (.int .i64), .sc (.str), .sc (.str)], 40, true⟩,
  some ⟨.struct [(0, 3), (1, 9), (2, 9)], [.sc (.int .i64), .sc (.str), .sc (.str)], 40, true⟩,
  some ⟨.other, [.sc (.any)], 8, false⟩,
  some ⟨.other, [.sc (.any)], 8, false⟩,
  some ⟨.other, [.sc (.any)], 8, false⟩,
  some ⟨.other, [.sc (.any)], 8, false⟩,
  some ⟨.other, [.sc (.any)], 8, false⟩,
  none,
  some ⟨.other, [.sc (.any)], 8, false⟩,
  none,
  some ⟨.other, [.sc (.any)], 8, false⟩,
  some ⟨.other, [.sc (.any)], 8, false⟩,
  some ⟨.other, [.sc (.any)], 8, false⟩,
  some ⟨.other, [.sc (.any)], 8, false⟩,
  some ⟨.slice 9, [.sl [.sc (.str)]], 24, false⟩,
  some ⟨.other, [.sc (.any)], 8, false⟩,
  some ⟨.other, [.sc (.any)], 8, false⟩,
  some ⟨.other, [.sc (.any)], 8, false⟩,
  some ⟨.other, [.sc (.any)], 8, false⟩,
  some ⟨.other, [.sc (.any)], 8, false⟩,
  some ⟨.other, [.sc (.any)], 8, false⟩,
  some ⟨.other, [.sc (.any)], 8, false⟩,
  some ⟨.ptr 105, [.sc (.any)], 8, false⟩,
  some ⟨.struct [(0, 3), (1, 4)], [.sc (.int .i64), .sc (.bool)], 16, true⟩,
  some ⟨.struct [(0, 3), (1, 4)], [.sc (.int .i64), .sc (.bool)], 16, true⟩,
  some ⟨.other, [.sc (.any)], 8, false⟩,
  some ⟨.ptr 135, [.sc (.any)], 8, false⟩,
  some ⟨.struct [(0, 34), (1, 47), (2, 60)], [.sl [.sc (.str), .sc (.str)], .sl [.sc (.int .i64), .sc (.int .i64), .sl [.sc (.int .i64), .sc (.str), .sc (.str)]], .sl [.sc (.int .i64)]], 72, false⟩,
  some ⟨.struct [(0, 34), (1, 47), (2, 60)], [.sl [.sc (.str), .sc (.str)], .sl [.sc (.int .i64), .sc (.int .i64), .sl [.sc (.int .i64), .sc (.str), .sc (.str)]], .sl [.sc (.int .i64)]], 72, false⟩,
  some ⟨.other, [.sc (.any)], 8, false⟩,
  some ⟨.other, [.sc (.any)], 8, false⟩,
  some ⟨.other, [.sc (.any)], 8, false⟩,
  some ⟨.other, [.sc (.any)], 8, false⟩,
  some ⟨.other, [.sc (.any)], 8, false⟩,
  some ⟨.other, [.sc (.any)], 8, false⟩,
  some ⟨.other, [.sc (.any)], 8, false⟩,
  some ⟨.other, [.sc (.any)], 8, false⟩,
  some ⟨.other, [.sc (.any)], 8, false⟩,
  some ⟨.other, [.sc (.any)], 8, false⟩,
  some ⟨.other, [.sc (.any)], 8, false⟩,
  some ⟨.other, [.sc (.any)], 8, false⟩,
  some ⟨.struct [(0, 17), (1, 17), (2, 17), (3, 9)], [.sc (.any), .sc (.any), .sc (.any), .sc (.str)], 40, false⟩,
  some ⟨.struct [(0, 17), (1, 17), (2, 17), (3, 9)], [.sc (.any), .sc (.any), .sc (.any), .sc (.str)], 40, false⟩,
  some ⟨.array 0 16, [], 0, false⟩,
  none,
  none,
  some ⟨.other, [.sc (.any)], 8, false⟩,
  some ⟨.sc (.int .u8), [.sc (.int .u8)], 1, false⟩,
  some ⟨.sc (.int .u8), [.sc (.int .u8)], 1, false⟩,
  some ⟨.other, [.sc (.any)], 8, false⟩,
  some ⟨.ptr 5, [.sc (.any)], 8, false⟩,
  some ⟨.sc (.int .i32), [.sc (.int .i32)], 4, false⟩,
  some ⟨.sc (.int .i32), [.sc (.int .i32)], 4, false⟩,
  some ⟨.struct [(0, 12), (1, 12), (2, 86), (3, 154), (4, 5), (5, 5), (6, 155), (7, 156), (8, 157), (9, 158), (10, 159)], [.sc (.int .u64), .sc (.int .u64), .sc (.int .u32), .sc (.int .u8), .sc (.int .u8), .sc (.int .u8), .sc (.int .u8), .sc (.any), .sc (.any), .sc (.int .i32), .sc (.int .i32)], 48, false⟩,
  some ⟨.struct [(0, 12), (1, 12), (2, 86), (3, 154), (4, 5), (5, 5), (6, 155), (7, 156), (8, 157), (9, 158), (10, 159)], [.sc (.int .u64), .sc (.int .u64), .sc (.int .u32), .sc (.int .u8), .sc (.int .u8), .sc (.int .u8), .sc (.int .u8), .sc (.any), .sc (.any), .sc (.int .i32), .sc (.int .i32)], 48, false⟩,
  some ⟨.other, [.sc (.any)], 8, false⟩,
  some ⟨.other, [.sc (.any)], 8, false⟩]
noncomputable def fnTab : List (Nat × Func) := [
  (2, Try.f2),
  (3, Try.f3),
  (4, Try.f4),
  (5, Try.f5),
  (6, Try.f6),
  (7, Try.f7),
  (8, Try.f8),
  (9, Try.f9),
  (10, Try.f10),
  (11, Try.f11),
  (12, Try.f12),
  (13, Try.f13),
  (14, Try.f14),
  (15, Try.f15),
  (16, Try.f16),
  (17, Try.f17),
  (18, Try.f18),
  (19, Try.f19),
  (20, Try.f20),
  (21, Try.f21),
  (22, Try.f22),
  (23, Try.f23),
  (24, Try.f24),
  (25, Try.f25),
  (26, Try.f26),
  (27, Try.f27),
  (28, Try.f28),
  (29, Try.f29),
  (30, Try.f30),
  (31, Try.f31),
  (32, Try.f32),
  (33, Try.f33),
  (34, Try.f34),
  (35, Try.f35),
  (36, Try.f36),
  (37, Try.f37),
  (38, Try.f38),
  (39, Try.f39),
  (40, Try.f40),
  (41, Try.f41),
  (42, Try.f42),
  (43, Try.f43),
  (44, Try.f44),
  (45, Try.f45),
  (46, Try.f46),
  (47, Try.f47),
  (48, Try.f48),
  (49, Try.f49),
  (50, Try.f50),
  (51, Try.f51),
  (53, Try.f53),
  (54, Try.f54),
  (55, Try.f55),
  (56, Try.f56),
  (57, Try.f57),
  (58, Try.f58),
  (59, Try.f59),
  (60, Try.f60),
  (61, Try.f61),
  (62, Try.f62),
  (63, Try.f63),
  (64, Try.f64),
  (65, Try.f65),
  (66, Try.f66),
  (67, Try.f67),
  (68, Try.f68),
  (69, Try.f69),
  (70, Try.f70),
  (71, Try.f71),
  (72, Try.f72),
  (73, Try.f73),
  (74, Try.f74),
  (75, Try.f75),
  (76, Try.f76),
  (77, Try.f77),
  (78, Try.f78),
  (79, Try.f79),
  (80, Try.f80),
  (81, Try.f81),
  (82, Try.f82),
  (83, Try.f83),
  (84, Try.f84),
  (85, Try.f85),
  (86, Try.f86),
  (87, Try.f87)]
theorem fns_ok : FnsOk Try.prog fnTab := by
  unfold fnTab
  exact ⟨⟨Try.func2, by kernel_rfl, by kernel_rfl⟩, ⟨Try.func3, by kernel_rfl, by kernel_rfl⟩, ⟨Try.func4, by kernel_rfl, by kernel_rfl⟩, ⟨Try.func5, by kernel_rfl, by kernel_rfl⟩, ⟨Try.func6, by kernel_rfl, by kernel_rfl⟩, ⟨Try.func7, by kernel_rfl, by kernel_rfl⟩, ⟨Try.func8, by kernel_rfl, by kernel_rfl⟩, ⟨Try.func9, by kernel_rfl, by kernel_rfl⟩, ⟨Try.func10, by kernel_rfl, by kernel_rfl⟩, ⟨Try.func11, by kernel_rfl, by kernel_rfl⟩, ⟨Try.func12, by kernel_rfl, by kernel_rfl⟩, ⟨Try.func13, by kernel_rfl, by kernel_rfl⟩, ⟨Try.func14, by kernel_rfl, by kernel_rfl⟩, ⟨Try.func15, by kernel_rfl, by kernel_rfl⟩, ⟨Try.func16, by kernel_rfl, by kernel_rfl⟩, ⟨Try.func17, by kernel_rfl, by kernel_rfl⟩, ⟨Try.func18, by kernel_rfl, by kernel_rfl⟩, ⟨Try.func19, by kernel_rfl, by kernel_rfl⟩, ⟨Try.func20, by kernel_rfl, by kernel_rfl⟩, ⟨Try.func21, by kernel_rfl, by kernel_rfl⟩, ⟨Try.func22, by kernel_rfl, by kernel_rfl⟩, ⟨Try.func23, by kernel_rfl, by kernel_rfl⟩, ⟨Try.func24, by kernel_rfl, by kernel_rfl⟩, ⟨Try.func25, by kernel_rfl, by kernel_rfl⟩, ⟨Try.func26, by kernel_rfl, by kernel_rfl⟩, ⟨Try.func27, by kernel_rfl, by kernel_rfl⟩, ⟨Try.func28, by kernel_rfl, by kernel_rfl⟩, ⟨Try.func29, by kernel_rfl, by kernel_rfl⟩, ⟨Try.func30, by kernel_rfl, by kernel_rfl⟩, ⟨Try.func31, by kernel_rfl, by kernel_rfl⟩, ⟨Try.func32, by kernel_rfl, by kernel_rfl⟩, ⟨Try.func33, by kernel_rfl, by kernel_rfl⟩, ⟨Try.func34, by kernel_rfl, by kernel_rfl⟩, ⟨Try.func35, by kernel_rfl, by kernel_rfl⟩, ⟨Try.func36, by kernel_rfl, by kernel_rfl⟩, ⟨Try.func37, by kernel_rfl, by kernel_rfl⟩, ⟨Try.func38, by kernel_rfl, by kernel_rfl⟩, ⟨Try.func39, by kernel_rfl, by kernel_rfl⟩, ⟨Try.func40, by kernel_rfl, by kernel_rfl⟩, ⟨Try.func41, by kernel_rfl, by kernel_rfl⟩, ⟨Try.func42, by kernel_rfl, by kernel_rfl⟩, ⟨Try.func43, by kernel_rfl, by kernel_rfl⟩, ⟨Try.func44, by kernel_rfl, by kernel_rfl⟩, ⟨Try.func45, by kernel_rfl, by kernel_rfl⟩, ⟨Try.func46, by kernel_rfl, by kernel_rfl⟩, ⟨Try.func47, by kernel_rfl, by kernel_rfl⟩, ⟨Try.func48, by kernel_rfl, by kernel_rfl⟩, ⟨Try.func49, by kernel_rfl, by kernel_rfl⟩, ⟨Try.func50, by kernel_rfl, by kernel_rfl⟩, ⟨Try.func51, by kernel_rfl, by kernel_rfl⟩, ⟨Try.func53, by kernel_rfl, by kernel_rfl⟩, ⟨Try.func54, by kernel_rfl, by kernel_rfl⟩, ⟨Try.func55, by kernel_rfl, by kernel_rfl⟩, ⟨Try.func56, by kernel_rfl, by kernel_rfl⟩, ⟨Try.func57, by kernel_rfl, by kernel_rfl⟩, ⟨Try.func58, by kernel_rfl, by kernel_rfl⟩, ⟨Try.func59, by kernel_rfl, by kernel_rfl⟩, ⟨Try.func60, by kernel_rfl, by kernel_rfl⟩, ⟨Try.func61, by kernel_rfl, by kernel_rfl⟩, ⟨Try.func62, by kernel_rfl, by kernel_rfl⟩, ⟨Try.func63, by kernel_rfl, by kernel_rfl⟩, ⟨Try.func64, by kernel_rfl, by kernel_rfl⟩, ⟨Try.func65, by kernel_rfl, by kernel_rfl⟩, ⟨Try.func66, by kernel_rfl, by kernel_rfl⟩, ⟨Try.func67, by kernel_rfl, by kernel_rfl⟩, ⟨Try.func68, by kernel_rfl, by kernel_rfl⟩, ⟨Try.func69, by kernel_rfl, by kernel_rfl⟩, ⟨Try.func70, by kernel_rfl, by kernel_rfl⟩, ⟨Try.func71, by kernel_rfl, by kernel_rfl⟩, ⟨Try.func72, by kernel_rfl, by kernel_rfl⟩, ⟨Try.func73, by kernel_rfl, by kernel_rfl⟩, ⟨Try.func74, by kernel_rfl, by kernel_rfl⟩, ⟨Try.func75, by kernel_rfl, by kernel_rfl⟩, ⟨Try.func76, by kernel_rfl, by kernel_rfl⟩, ⟨Try.func77, by kernel_rfl, by kernel_rfl⟩, ⟨Try.func78, by kernel_rfl, by kernel_rfl⟩, ⟨Try.func79, by kernel_rfl, by kernel_rfl⟩, ⟨Try.func80, by kernel_rfl, by kernel_rfl⟩, ⟨Try.func81, by kernel_rfl, by kernel_rfl⟩, ⟨Try.func82, by kernel_rfl, by kernel_rfl⟩, ⟨Try.func83, by kernel_rfl, by kernel_rfl⟩, ⟨Try.func84, by kernel_rfl, by kernel_rfl⟩, ⟨Try.func85, by kernel_rfl, by kernel_rfl⟩, ⟨Try.func86, by kernel_rfl, by kernel_rfl⟩, ⟨Try.func87, by kernel_rfl, by kernel_rfl⟩, trivial⟩
def ovTab : List (Nat × Sig) := [(5, ⟨[[.F]]⟩), (11, ⟨[[.F]]⟩), (12, ⟨[[.O [], .O [], .O []], [.R]]⟩), (13, ⟨[[.F], [.R]]⟩), (20, ⟨[[.O [], .O [], .O []], [.R]]⟩), (21, ⟨[[.O [], .O [], .O []], [.R]]⟩), (22, ⟨[[.R, .R, .R, .O [.F, .F, .F, .F], .O [.F, .F], .R, .O [.F, .O [.F, .F, .F], .F, .O [.F, .F], .O [.F, .F, .F]], .O [.F, .F, .F, .F, .F], .O [.F, .F, .F, .F, .F], .O [.F, .F]], [.R, .R, .R, .R]]⟩), (23, ⟨[[.O [], .O [], .O []], [.R, .R, .R, .R, .R, .R, .R, .R, .R, .R]]⟩), (24, ⟨[[.O []], [.R], [.R]]⟩), (31, ⟨[[.O [], .O [], .O []]]⟩), (32, ⟨[[.R, .R, .R, .O [.F, .F, .F, .F], .O [.F, .F], .R, .O [.F, .O [.F, .F, .F], .F, .O [.F, .F], .O [.F, .F, .F]], .O [.F, .F, .F, .F, .F], .O [.F, .F, .F, .F, .F], .O [.F, .F]], [.R]]⟩), (33, ⟨[[.R, .R, .R, .O [.F, .F, .F, .F], .O [.F, .F], .R, .O [.F, .O [.F, .F, .F], .F, .O [.F, .F], .O [.F, .F, .F]], .O [.F, .F, .F, .F, .F], .O [.F, .F, .F, .F, .F], .O [.F, .F]], [.R, .R, .R, .R]]⟩), (34, ⟨[[.R, .R, .R, .O [.F, .F, .F, .F], .O [.F, .F], .R, .O [.F, .O [.F, .F, .F], .F, .O [.F, .F], .O [.F, .F, .F]], .O [.F, .F, .F, .F, .F], .O [.F, .F, .F, .F, .F], .O [.F, .F]], [.R, .R, .R, .R]]⟩), (35, ⟨[[.R, .R, .R, .O [.F, .F, .F, .F], .O [.F, .F], .R, .O [.F, .O [.F, .F, .F], .F, .O [.F, .F], .O [.F, .F, .F]], .O [.F, .F, .F, .F, .F], .O [.F, .F, .F, .F, .F], .O [.F, .F]], [.R]]⟩), (37, ⟨[[.R, .R, .R, .O [.F, .F, .F, .F], .O [.F, .F], .R], [.R]]⟩), (38, ⟨[[.O [], .O [], .O []], [.R]]⟩), (39, ⟨[[.O [], .O [], .O []]]⟩), (40, ⟨[[.O []], [.R], [.O []]]⟩), (43, ⟨[[.R, .R, .R, .O [.F, .F, .F, .F], .O [.F, .F], .R], [.R]]⟩), (45, ⟨[[.R, .R, .R, .O [.F, .F, .F, .F], .O [.F, .F], .R, .O [.F, .O [.F, .F, .F], .F, .O [.F, .F], .O [.F, .F, .F]], .O [.F, .F, .F, .F, .F], .O [.F, .F, .F, .F, .F], .O [.F, .F]], [.R, .R, .R, .R, .R]]⟩), (46, ⟨[[.R, .R, .R, .O [.F, .F, .F, .F], .O [.F, .F], .R, .O [.F, .O [.F, .F, .F], .F, .O [.F, .F], .O [.F, .F, .F]], .O [.F, .F, .F, .F, .F], .O [.F, .F, .F, .F, .F], .O [.F, .F]], [.R]]⟩), (47, ⟨[[.R, .O [.F, .F, .F], .R, .O [.F, .F], .O [.F, .F, .F]], [.R]]⟩), (51, ⟨[[.O [], .O [], .O []]]⟩), (56, ⟨[[.R, .R, .R, .O [.F, .F, .F, .F], .O [.F, .F], .R, .O [.F, .O [.F, .F, .F], .F, .O [.F, .F], .O [.F, .F, .F]], .O [.F, .F, .F, .F, .F], .O [.F, .F, .F, .F, .F], .O [.F, .F]], [.R, .R, .R, .R, .R]]⟩), (57, ⟨[[.R, .O [.F, .F, .F], .R, .O [.F, .F], .O [.F, .F, .F]], [.R], [.R]]⟩), (58, ⟨[[.R, .R, .R, .O [.F, .F, .F, .F], .O [.F, .F], .R], [.R], [.R], [.R]]⟩), (62, ⟨[[.O [], .O [], .O []]]⟩), (63, ⟨[[.O [], .O [], .O []], [.R]]⟩), (68, ⟨[[.R, .O [.F, .F, .F], .R, .O [.F, .F], .O [.F, .F, .F]], [.R], [.R]]⟩), (70, ⟨[[.R, .O [.F, .F, .F], .R, .O [.F, .F], .O [.F, .F, .F]], [.R, .R, .R]]⟩), (72, ⟨[[.F], [.R]]⟩), (74, ⟨[[.O [.F, .F], .O [.F, .F, .F], .O [.F]], [.R, .R, .R]]⟩)]
def fzTab : List (Nat × Nat) := [(12, 8), (23, 15), (51, 5), (51, 14), (61, 7), (62, 4)]
def msTab : List (Nat × Nat × List M) := [(10, 2, [.O [.F, .F]]), (10, 3, [.O [.F, .F]]), (19, 21, [.F, .O [.F, .F, .F], .F, .O [.F, .F], .O [.F, .F, .F]]), (32, 32, [.F, .F]), (33, 29, [.F, .F, .F, .F, .F]), (33, 32, [.F, .F, .F, .F, .F]), (34, 76, [.F, .F, .F, .F, .F]), (35, 27, [.F, .F, .F, .F, .F]), (36, 5, [.F, .F, .F, .F, .F]), (37, 68, [.F, .F, .F, .F]), (43, 25, [.F, .F, .F, .F, .F]), (43, 53, [.F, .F, .F, .F]), (45, 59, [.F, .F, .F, .F, .F]), (46, 9, [.F, .F, .F, .F, .F]), (46, 10, [.F, .F, .F, .F, .F]), (46, 32, [.F, .F, .F, .F, .F]), (46, 40, [.F, .F, .F, .F, .F]), (49, 10, [.F, .F, .F, .F, .F]), (49, 47, [.F, .F, .F, .F, .F]), (55, 8, [.F, .F, .F, .F, .F]), (55, 45, [.F, .F, .F, .F, .F]), (56, 43, [.F, .F, .F, .F, .F]), (60, 8, [.F, .F, .F]), (60, 25, [.F, .F, .F]), (70, 25, [.F, .F, .F]), (74, 53, [.F, .F, .F]), (74, 115, [.F, .F, .F])]
def castTab : List (Nat × Nat × List M) := []
def boxTab : List (Nat × Nat × List M) := [(3, 3, [.F, .F, .F, .O [.F, .F, .F, .O [.F]], .O [.F, .F], .F, .O [.F, .O [.F, .F, .F], .F, .O [.F, .F], .O [.F, .F, .F]], .O [.F, .F, .F, .F, .F], .O [.F, .F, .F, .F, .F], .O [.F, .F]]), (5, 2, [.F, .F, .F, .O [.F, .F, .F, .F], .O [.F, .F], .F, .O [.F, .O [.F, .F, .F], .F, .O [.F, .F], .O [.F, .F, .F]], .O [.F, .F, .F, .F, .F], .O [.F, .F, .F, .F, .F], .O [.F, .F]]), (6, 5, [.F, .O [.F, .F, .F], .F, .O [.F, .F], .O [.F, .F, .F]]), (10, 5, [.F, .O [.F, .F, .O [.F, .F, .F]], .F, .O [.F, .F], .O [.F, .F, .O [.F, .F, .F]]]), (11, 30, [.O [.F], .F, .F]), (12, 4, [.F, .F, .F, .O [.F, .F, .F, .F], .O [.F, .F], .F, .O [.F, .O [.F, .F, .F], .F, .O [.F, .F], .O [.F, .F, .F]], .O [.F, .F, .F, .F, .F], .O [.F, .F, .F, .F, .F], .O [.F, .F]]), (12, 5, [.F, .F, .F, .O [.F, .F, .F, .F], .O [.F, .F], .F, .O [.F, .O [.F, .F, .F], .F, .O [.F, .F], .O [.F, .F, .F]], .O [.F, .F, .F, .F, .F], .O [.F, .F, .F, .F, .F], .O [.F, .F]]), (19, 2, [.F, .F, .F, .O [.F, .F, .F, .F], .O [.F, .F], .F, .O [.F, .O [.F, .F, .F], .F, .O [.F, .F], .O [.F, .F, .F]], .O [.F, .F, .F, .F, .F], .O [.F, .F, .F, .F, .F], .O [.F, .F]]), (19, 8, [.F, .F, .F, .O [.F, .F, .F, .F], .O [.F, .F], .F, .O [.F, .O [.F, .F, .F], .F, .O [.F, .F], .O [.F, .F, .F]], .O [.F, .F, .F, .F, .F], .O [.F, .F, .F, .F, .F], .O [.F, .F]]), (19, 11, [.F, .F, .F, .O [.F, .F, .F, .F], .O [.F, .F], .F, .O [.F, .O [.F, .F, .F], .F, .O [.F, .F], .O [.F, .F, .F]], .O [.F, .F, .F, .F, .F], .O [.F, .F, .F, .F, .F], .O [.F, .F]]), (19, 3, [.F, .F, .F, .O [.F, .F, .F, .F], .O [.F, .F], .F, .O [.F, .O [.F, .F, .F], .F, .O [.F, .F], .O [.F, .F, .F]], .O [.F, .F, .F, .F, .F], .O [.F, .F, .F, .F, .F], .O [.F, .F]]), (23, 4, [.F, .F, .F, .O [.F, .F, .F]]), (23, 22, [.F, .F, .F, .O [.F, .F, .F]]), (23, 28, [.F, .F, .F, .O [.F, .F, .F]]), (23, 5, [.F, .F, .F, .O [.F, .F, .F]]), (23, 40, [.F, .F, .F, .O [.F, .F, .F]]), (23, 50, [.F, .F, .F, .O [.F, .F, .F]]), (23, 54, [.F, .F, .F, .O [.F, .F, .F]]), (23, 33, [.F, .F, .F, .O [.F, .F, .F]]), (29, 2, [.F, .F, .F, .O [.F, .F, .F, .F], .O [.F, .F], .F]), (29, 6, [.F, .F, .F, .O [.F, .F, .F, .F], .O [.F, .F], .F]), (29, 8, [.F, .F, .F, .O [.F, .F, .F, .F], .O [.F, .F], .F]), (30, 2, [.F, .O [.F, .F, .F], .F, .O [.F, .F], .O [.F, .F, .F]]), (30, 6, [.F, .O [.F, .F, .F], .F, .O [.F, .F], .O [.F, .F, .F]]), (30, 8, [.F, .O [.F, .F, .F], .F, .O [.F, .F], .O [.F, .F, .F]]), (33, 5, [.F, .F, .F, .O [.F, .F, .F], .F]), (43, 38, [.F, .O [.F, .F, .F], .F, .O [.F]]), (43, 6, [.F, .O [.F, .F, .F], .F, .O [.F]]), (48, 2, [.F, .F, .F, .O [.F, .F, .F], .F]), (57, 12, [.F, .F, .O [.F, .F, .F]]), (57, 7, [.F, .F, .O [.F, .F, .F]]), (60, 9, [.O [.F, .F], .O [.F, .F, .F], .O [.F]]), (70, 13, [.O [.F, .F], .O [.F, .F, .F], .O [.F]]), (82, 2, [.F, .F, .O [.F, .F, .F]])]
def canTab : List (Nat × Nat × List M) := [(5, 0, [.F, .F, .F, .O [.F, .F, .F, .F], .O [.F, .F], .F, .O [.F, .O [.F, .F, .F], .F, .O [.F, .F], .O [.F, .F, .F]], .O [.F, .F, .F, .F, .F], .O [.F, .F, .F, .F, .F], .O [.F, .F]]), (6, 0, [.O [.F, .F]]), (9, 0, [.O [.F, .F]]), (10, 0, [.O [.O [.F, .F]]]), (11, 0, [.O [.F], .F, .F]), (12, 0, [.F, .F, .F, .O [.F, .F, .F, .F], .O [.F, .F], .F, .O [.F, .O [.F, .F, .F], .F, .O [.F, .F], .O [.F, .F, .F]], .O [.F, .F, .F, .F, .F], .O [.F, .F, .F, .F, .F], .O [.F, .F]]), (14, 0, [.O [.F, .F]]), (17, 0, [.O [.F, .F]]), (18, 0, [.O [.F, .F]]), (19, 0, [.F, .F, .F, .O [.F, .F, .F, .F], .O [.F, .F], .F, .O [.F, .O [.F, .F, .F], .F, .O [.F, .F], .O [.F, .F, .F]], .O [.F, .F, .F, .F, .F], .O [.F, .F, .F, .F, .F], .O [.F, .F]]), (22, 1000, [.F, .F, .F, .O [.F, .F, .F, .F], .O [.F, .F], .F, .O [.F, .O [.F, .F, .F], .F, .O [.F, .F], .O [.F, .F, .F]], .O [.F, .F, .F, .F, .F], .O [.F, .F, .F, .F, .F], .O [.F, .F]]), (23, 0, [.F, .F, .F, .O [.F, .F, .F]]), (24, 0, [.O [.F, .F]]), (27, 0, [.O [.F, .F]]), (29, 0, [.F, .F, .F, .O [.F, .F, .F, .F], .O [.F, .F], .F]), (30, 0, [.F, .O [.F, .F, .F], .F, .O [.F, .F], .O [.F, .F, .F]]), (32, 1000, [.F, .F, .F, .O [.F, .F, .F, .F], .O [.F, .F], .F, .O [.F, .O [.F, .F, .F], .F, .O [.F, .F], .O [.F, .F, .F]], .O [.F, .F, .F, .F, .F], .O [.F, .F, .F, .F, .F], .O [.F, .F]]), (33, 1000, [.F, .F, .F, .O [.F, .F, .F, .F], .O [.F, .F], .F, .O [.F, .O [.F, .F, .F], .F, .O [.F, .F], .O [.F, .F, .F]], .O [.F, .F, .F, .F, .F], .O [.F, .F, .F, .F, .F], .O [.F, .F]]), (34, 1000, [.F, .F, .F, .O [.F, .F, .F, .F], .O [.F, .F], .F, .O [.F, .O [.F, .F, .F], .F, .O [.F, .F], .O [.F, .F, .F]], .O [.F, .F, .F, .F, .F], .O [.F, .F, .F, .F, .F], .O [.F, .F]]), (35, 1000, [.F, .F, .F, .O [.O []], .O [.O []], .F, .O [.O []], .O [.F, .F, .F, .F, .F], .O [.O []], .O [.O []]]), (36, 0, [.O [.F, .F, .F, .F, .F]]), (37, 1000, [.F, .F, .F, .O [.F, .F, .F, .F], .O [.F, .F], .F]), (39, 0, [.O [.F, .F, .F]]), (40, 0, [.O [.F, .F]]), (43, 0, [.O [.F, .F, .F, .F, .F]]), (43, 1000, [.F, .F, .F, .O [.F, .F, .F, .F], .O [.F, .F], .F]), (44, 0, [.O [.F, .F, .F]]), (45, 1000, [.F, .F, .F, .O [.F, .F, .F, .F], .O [.F, .F], .F, .O [.F, .O [.F, .F, .F], .F, .O [.F, .F], .O [.F, .F, .F]], .O [.F, .F, .F, .F, .F], .O [.F, .F, .F, .F, .F], .O [.F, .F]]), (46, 0, [.O [.F, .F, .F, .F, .F]]), (46, 1, [.O [.F, .F, .F, .F, .F]]), (47, 1000, [.F, .O [.F, .F, .F], .F, .O [.F, .F], .O [.F, .F, .F]]), (48, 0, [.F, .F, .F, .O [.F, .F, .F], .F]), (49, 0, [.O [.F, .F, .F, .F, .F]]), (50, 0, [.O [.F, .F, .F]]), (55, 0, [.O [.F, .F, .F, .F, .F]]), (56, 1000, [.F, .F, .F, .O [.F, .F, .F, .F], .O [.F, .F], .F, .O [.F, .O [.F, .F, .F], .F, .O [.F, .F], .O [.F, .F, .F]], .O [.F, .F, .F, .F, .F], .O [.F, .F, .F, .F, .F], .O [.F, .F]]), (57, 1000, [.F, .O [.F, .F, .F], .F, .O [.F, .F], .O [.F, .F, .F]]), (58, 1000, [.F, .F, .F, .O [.F, .F, .F, .F], .O [.F, .F], .F]), (60, 0, [.O [.F, .F]]), (60, 1, [.O [.F, .F, .F]]), (61, 0, [.O [.F]]), (67, 0, [.O [.F, .F, .F]]), (68, 1000, [.F, .O [.F, .F, .F], .F, .O [.F, .F], .O [.F, .F, .F]]), (70, 1000, [.F, .O [.F, .F, .F], .F, .O [.F, .F], .O [.F, .F, .F]]), (74, 1000, [.O [.F, .F], .O [.F, .F, .F], .O [.F]]), (82, 0, [.F, .F, .O [.F, .F, .F]]), (84, 0, [.O [.F, .F]]), (87, 0, [.O [.F, .F]])]
def cutTab : List (Nat × Nat × Nat) := [(37, 45, 1), (47, 39, 1)]
def rgTab : List (Nat × Nat × List (Nat × Nat)) := [(33, 7, [(0, 7)]), (74, 16, [(0, 1)])]
def retTab : List (Nat) := [72]
def prims : FuncId → Option (List Arg → R3 Ret) := fun f => cond (Nat.beq f 18) (some (primClone [.sc (.str), .sc (.str)])) <| cond (Nat.beq f 40) (some (primInsert [.sc (.str), .sc (.str)])) <| none

def look3 {α : Type} (d : α) (f x : Nat) : List (Nat × Nat × α) → α
  | [] => d
  | (a, b, c) :: r => cond (Nat.beq f a && Nat.beq x b) c (look3 d f x r)
def CX : Ctx where
  ty := tabFn tyTab
  fn := fun f => lookF f fnTab
  sig := sigTab tyTab fnTab ovTab
  own := fun f d => !(fzTab.any fun x => Nat.beq x.1 f && Nat.beq x.2 d)
  ms := fun f d => look3 [] f d msTab
  cut := fun f d => look3 0 f d cutTab
  cast := fun f d => look3 [] f d castTab
  box := fun f d => look3 [] f d boxTab
  rg := fun f d => look3 [] f d rgTab
  ret := fun f => retTab.any (Nat.beq f)
  can := fun f q => look3 [] f q canTab
end
end Go.Proofs.Ytjjonejgbdbnjaa

