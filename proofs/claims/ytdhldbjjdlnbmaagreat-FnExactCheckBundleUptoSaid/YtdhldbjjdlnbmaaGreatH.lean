/- A part of the proof: texts EPrim6, EIns1, EIns, EDig, S7H, S7N: see the last part's opening words. -/
import Derived.Test.YtdhldbjjdlnbmaaGreatE3
import Derived.Shelf.SlicesE.Clone
import Derived.Shelf.RegionOpenPlain
import Derived.Lib.AppendZerosOnto
import Derived.Lib.Overlaps
import Derived.Laws.Externs
import Derived.Laws.IdiomCopy
import Derived.Lib.JoinLaws
import Derived.Lib.AppendZeros
import Derived.Shelf.Spec.SlicesInsert
import Derived.Test.YtdhldbjjdlnbmaaGreatProg
set_option linter.unusedVariables false
set_option linter.unusedSimpArgs false
set_option linter.unnecessarySimpa false
namespace Go.Proofs
open Go Go.Shelf Go.RowKit Go.Lib
variable {P : Program} {ρ : Ren}
set_option maxHeartbeats 2000000 in
set_option maxRecDepth 100000 in
theorem clone_zero (L : SlLaysE0.n41 P ρ) (i0 : TypeInfo) (z : Value) (size bytes : Nat) (hi : P.info? (ρ.t 23) = some i0) (hz0 : i0.zero = some z) (hz1 : i0.size = size) (hz2 : i0.bytes = bytes) (hzs : z.cells.size = size) (hsz : 0 < size)
    (z23 : ∀ w, (Go.sizeOf (ρ.t 23)).run P w = .ok size w) (ad : Addr) (c : Nat) (w : World) :
    Calls P (ρ.f 41) #[.slice (some ad) 0 c] w fun e w' => ∃ v', e = .returned v' ∧ w'.ownsRow w.heap.size (ρ.t 23) size v' 0 [] ∧ Below w.heap.size w w' := by
  have mixed := L.mixed; have t4 := L.t4; have a4 := L.a4; have z4 := L.z4; have v4 := L.v4; have t22 := L.t22; have a22 := L.a22; have z22 := L.z22; have v22 := L.v22
  have q22 : ∀ (w : World) (a : Option Addr) (n c n' c' : Nat), (binOp .eql (ρ.t 22) (.slice a n c) (.slice none n' c')).run P w = .ok (.bool a.isNone) w := fun w a n c n' c' => Lib.run_eql_slice_nil w _ _ a n c n' c' L.t22
  have u22 : ∀ w, Sem.run P (underlying (ρ.t 22)) w = .ok (TypeDesc.slice (ρ.t 23)) w := run_underlying t22
  obtain ⟨_, _, FG⟩ := L.f41
  go_enter FG, SlBodyN.n41_ntmps ρ
  go_wp2_with (at_builtin; refine wpList_append_own _ rfl _ _ (ρ.t 22) rfl w.heap.size (ρ.t 23) i0 z size bytes t22 hi hz0 hz1 hz2 hzs hsz _ _ _ rfl (World.ownsRow_made w #[] 0 (Nat.le_refl _) (Nat.zero_le _) (by simp)) ad 0 c [] rfl ?qc1 ?qc2 ?qc3 ?qc4 ?qc5 ?qc6 ?_)
  case qc1 => simp
  case qc2 => intro j u hj; simp at hj
  case qc3 => intro u hu; cases hu
  case qc4 => simp
  case qc5 => simp
  case qc6 => simp
  intro v' w1 hown hgrow hnil
  go_wp2
  go_ret
  refine ⟨v', rfl, by simpa using hown, ?_⟩
  exact ((Below.refl _ w).alloc (Nat.le_refl _) _).grown hgrow (by simp) (by intro k hk; simp [Value.ownBlock] at hk; omega)
end Go.Proofs
namespace Go.E
open Go Go.Shelf Go.Proofs Go.RowKit
section
variable {g0 : Gh} {I A : Foot} {w w' : World} {vs : Array Value} {es : List LT} {ms : List M} {rows : List (List T)}
theorem ret_new {args : List Arg} {h : Value} {F : Foot} (hp : Pre g0 I A args w vs) (hb : Below w.heap.size w w') (hrow : RowOwn w' I es ms rows h F) (hF : ∀ b o, F b o → w.heap.size ≤ b) (hs : Single h) :
    RetR g0 I A args w ⟨[.one (.own [7000000] es ms rows)], [[none]], []⟩ (g0.set [7000000] h F) I w' h := by
  have hno : ∀ {i j : Nat} {x : List LT × List M × List (List T)}, ownOf ⟨[.one (.own [7000000] es ms rows)], [[none]], []⟩ i j ≠ some x := by
    intro i j x
    match i, j with
    | 0, 0 => simp [ownOf]
    | 0, j + 1 => simp [ownOf]
    | i + 1, j => simp [ownOf]
  have hk1 := keeps_below hb (fun _ _ => True)
  refine ⟨⟨[h], rfl, ⟨hs, ?_⟩, trivial⟩, fun i j es1 ms1 rows1 h => absurd h hno, fun i ls h => by simp [bxOf] at h, by simp [retKeys, keysOfR], fun k hk i j hij => ?_, fun k k' h h' hne => absurd ((take1_out h).trans (take1_out h').symm) hne, fun k h => ?_, fun k h => ?_, fun _ _ h => h, fun _ _ h _ => h, fun b o hi => ?_, hk1.weaken fun _ _ _ => trivial⟩
  · exact ⟨by rw [Gh.set_h], by rw [Gh.set_F]; exact hrow⟩
  · rcases hij with ⟨y, h⟩ | ⟨-, ls, h⟩
    · exact absurd h hno
    · simp [bxOf] at h
  · rw [take1_out h, Gh.set_F]
    intro b o hf hi
    have := cell_lt (hp.iwf b o hi)
    have := hF b o hf
    omega
  · rw [take1_out h, Gh.set_F]
    intro b o hf hi
    have := cell_lt (hp.awf b o hi)
    have := hF b o hf
    omega
  · obtain ⟨v, hv⟩ := hp.iwf b o hi
    exact ⟨v, (hk1.cell trivial ⟨v, hv⟩).trans hv⟩
theorem own_made {S : Foot} {el : TypeId} {v : Value} {news : List Value} {base : Nat} (hes : es ≠ []) (hm : noO ms) (hmax : rows.length ≤ maxCells) (hr : RowsV w' I es rows news) (ho : w'.ownsRow base el es.length v rows.length news) :
    ∃ F, RowOwn w' I es ms rows v F ∧ (∀ b o, F b o → base ≤ b) ∧ Single v := by
  obtain ⟨hl, ⟨rfl, h0⟩ | ⟨g, cap, cur, rfl, hb, hg, hc, -, hsz, ht⟩⟩ := ho
  · have : rows = [] := List.length_eq_zero_iff.1 h0
    subst this
    exact ⟨fun _ _ => False, RowOwn.nil hes fun _ _ h => h, fun _ _ h => h.elim, ⟨fun _ h => (nomatch h), fun _ h => (nomatch h)⟩⟩
  · refine ⟨fun b o => b = g ∧ o < cur.size, RowOwn.mk' (bs := []) hes hmax hc hg hsz (fun o ho => by omega) ?_ ⟨fun h => (nomatch h), trivial⟩ (fun b' o' => ⟨.inl, fun h => h.elim (fun h => h) fun h => (nomatch h.1)⟩), fun b o h => h.1 ▸ hb, ⟨fun _ h => (nomatch h), fun _ h => (nomatch h)⟩⟩
    refine RowsOf.cells (hr.toM hm) ?_
    rw [← hl, List.take_length, hl]; exact ht
end
def primClone (es : List LT) : List Arg → R3 Ret
  | [.one (.dz es' rows)] => cond (LT.beqs es es' && flatLs es && Nat.ble es.length 1000) (cond (decide (rows.length * es.length ≤ maxRow)) (.ok ⟨[.one (.own [7000000] es (es.map fun _ => .F) rows)], [[none]], []⟩) .bad) .bad
  | [.one (.fz es' rows)] => cond (LT.beqs es es' && flatLs es && Nat.ble es.length 1000) (cond (decide (rows.length * es.length ≤ maxRow)) (.ok ⟨[.one (.own [7000000] es (es.map fun _ => .F) rows)], [[none]], []⟩) .bad) .bad
  | _ => .bad
theorem zeroVs_len : ∀ {lts : List LT} {vs : List Value}, zeroVs lts vs → vs.length = lts.length
  | [], [], _ => rfl
  | _ :: _, _ :: _, h => by simp [zeroVs_len h.2]
  | [], _ :: _, h => h.elim
  | _ :: _, [], h => h.elim
theorem primClone_ok {Γ : Ctx} {P : Program} {ρ : Shelf.Ren} (hΓ : CtxOk Γ P) (L : SlLaysE0.n41 P ρ) {te : TI} (hte : Γ.ty (ρ.t 23) = some te) (hne : te.lts ≠ []) {args : List Arg} (h : primClone te.lts args ≠ .bad) : FnOk P (ρ.f 41) args (primClone te.lts args) := by
  have htok := hΓ.ty _ _ hte
  obtain ⟨i0, hi1, hi2, hi3, hi4, hi5, z, hz, hzs⟩ := htok.info
  have hzl := zeroVs_len hzs
  have key : ∀ (S : Foot) (arg : Arg) (rows : List (List T)) (g0 : Gh) (I A : Foot) (w : World) (vs : Array Value), Pre g0 I A [arg] w vs → (∀ v, ArgR g0 w I 0 arg v → LeafR w S (.sl te.lts) v (.l rows)) →
      flatLs te.lts = true → te.lts.length ≤ 1000 → rows.length * te.lts.length ≤ maxRow →
      Calls P (ρ.f 41) vs w fun
        | .returned v, w' => ∃ ret g' I', R3.ok (⟨[.one (.own [7000000] te.lts (te.lts.map fun _ => .F) rows)], [[none]], []⟩ : Ret) = .ok ret ∧ RetR g0 I A [arg] w ret g' I' w' v
        | .panicked _, _ => False
        | .outgrown, _ => False := by
    intro S arg rows g0 I A w vs hp hv hf hle hmr
    obtain ⟨v, rfl, hav⟩ : ∃ v, vs = #[v] ∧ ArgR g0 w I 0 arg v := by
      have hrel := hp.rel
      match hl : vs.toList, hrel with
      | [v], hrel => exact ⟨v, Array.toList_inj.1 (by simpa using hl), hrel.1⟩
      | [], hrel => exact hrel.elim
      | _ :: _ :: _, hrel => exact hrel.2.elim
    obtain ⟨aa, cap, news, rfl, hcap, hmax, hnl, hrv, hplace⟩ := leaf_cells (hv v hav)
    have hone : ∀ u ∈ news, u.oneCell' = true := fun u hu => (hrv.single hnl u hu).one
    have hpos : 0 < te.lts.length := List.length_pos_iff.2 hne
    have fin : ∀ (v' : Value) (w' : World), w'.ownsRow w.heap.size (ρ.t 23) te.lts.length v' rows.length news → Below w.heap.size w w' →
        ∃ ret g' I', R3.ok (⟨[.one (.own [7000000] te.lts (te.lts.map fun _ => .F) rows)], [[none]], []⟩ : Ret) = .ok ret ∧ RetR g0 I A [arg] w ret g' I' w' v' := by
      intro v' w' ho hb
      obtain ⟨F, h1, h2, h3⟩ := own_made (I := I) (S := S) hne (noO_F te.lts) hmax (hrv.flat hf) ho
      exact ⟨_, _, _, rfl, ret_new hp hb h1 h2 h3⟩
    cases aa with
    | none =>
      refine (AnyE.slices_Clone_nil L rows.length cap w).mono fun e w' ⟨he, hw⟩ => ?_
      subst he hw
      have hr0 : rows = [] := by
        rcases hplace with h | ⟨b, o, h, -⟩
        · exact h
        · cases h
      subst hr0
      exact fin _ _ ⟨by simpa using hnl, .inl ⟨rfl, rfl⟩⟩ (Below.refl _ _)
    | some ad =>
      rcases hplace with hr0 | ⟨b, o, h, hc, -⟩
      · subst hr0
        have hn0 : news = [] := List.length_eq_zero_iff.1 (by simpa using hnl)
        subst hn0
        refine (clone_zero L i0 z te.lts.length i0.bytes hi1 hz hi2 rfl (by rw [← Array.length_toList]; exact hzl) hpos (fun w => run_sizeOf htok) ad cap w).mono fun e w' ⟨v', he, ho, hb⟩ => ?_
        subst he
        exact fin v' w' ho hb
      · cases h
        refine (AnyE.slices_Clone L i0 z te.lts.length i0.bytes hi1 hz hi2 rfl (by rw [← Array.length_toList]; exact hzl) hpos (fun w => run_sizeOf htok) b o rows.length cap news w hnl (by unfold maxLen; unfold maxCells at hmax; omega) ?_ ?_ hone).mono fun e w' ⟨v', he, ho, _, hb⟩ => ?_
        · have h1 : rows.length * i0.bytes ≤ rows.length * (24 * te.lts.length) := Nat.mul_le_mul_left _ hi5
          have h2 : rows.length * (24 * te.lts.length) = 24 * (rows.length * te.lts.length) := by rw [Nat.mul_left_comm]
          unfold maxRow at hmr
          omega
        · intro j u hu
          obtain ⟨hj, rfl⟩ := List.getElem?_eq_some_iff.1 hu
          exact hc.get j hj
        · subst he
          exact fin v' w' ho hb
  unfold primClone at h ⊢
  split at h
  · rename_i es' rows
    cases hc : (LT.beqs te.lts es' && flatLs te.lts && Nat.ble te.lts.length 1000) with
    | false => rw [hc] at h; exact absurd rfl h
    | true =>
      cases hm : decide (rows.length * te.lts.length ≤ maxRow) with
      | false => rw [hc, hm] at h; exact absurd rfl h
      | true =>
        simp only [Bool.and_eq_true] at hc
        have := LT.beqs_eq hc.1.1
        subst this
        intro g0 I A w vs hp
        exact key (ID g0 I) _ rows g0 I A w vs hp (fun v hv => hv) hc.1.2 (Nat.le_of_ble_eq_true hc.2) (of_decide_eq_true hm)
  · rename_i es' rows
    cases hc : (LT.beqs te.lts es' && flatLs te.lts && Nat.ble te.lts.length 1000) with
    | false => rw [hc] at h; exact absurd rfl h
    | true =>
      cases hm : decide (rows.length * te.lts.length ≤ maxRow) with
      | false => rw [hc, hm] at h; exact absurd rfl h
      | true =>
        simp only [Bool.and_eq_true] at hc
        have := LT.beqs_eq hc.1.1
        subst this
        intro g0 I A w vs hp
        exact key I _ rows g0 I A w vs hp (fun v hv => hv) hc.1.2 (Nat.le_of_ble_eq_true hc.2) (of_decide_eq_true hm)
  · exact absurd rfl h
end Go.E

namespace Go.E
open Go Go.Proofs Go.RowKit Go.Lib
theorem run_copyK {P : Program} {w : World} {dT sT ty elem : TypeId} {k : Nat} (hu : P.underlying dT = some (.slice elem)) (hs : (P.info? elem).map (·.size) = some k) {b o dLen dCap : Nat} {a : Addr} {sLen sCap : Nat} {cs : List Value} {c : Array Value} {el : TypeId} {fz : Nat × Nat}
    (hB : Block w b c el fz) (hn : cs.length = min sLen dLen * k) (hsrc : ∀ j v, cs[j]? = some v → w.cell? (a.add j) = some v) (hc : o + cs.length ≤ c.size) (hfz : ∀ o, o ≤ c.size → ¬ (fz.1 ≤ o ∧ o < fz.2)) (h1 : ∀ v ∈ cs, Single v) :
    (Builtin.copy_ #[dT, sT] ty #[.slice (some ⟨b, o, none⟩) dLen dCap, .slice (some a) sLen sCap]).run P w = .ok (goInt ((Nat.min sLen dLen : Nat) : Int)) (World.put w b (c.toList.take o ++ cs ++ c.toList.drop (o + cs.length)).toArray el fz) := by
  obtain ⟨c', hst, hc'⟩ := run_storeCells (P := P) cs 0 o c w hB (by simpa using hc) h1 (fun j hj => hfz _ (by omega))
  have hl := run_loadCells_list (P := P) w a cs hsrc
  rw [hn] at hl
  have hcc : c' = (c.toList.take o ++ cs ++ c.toList.drop (o + cs.length)).toArray := by
    rw [Nat.add_zero] at hc'
    rw [← hc']
  rw [← hcc]
  cases hq : P.info? elem with
  | none => simp [hq] at hs
  | some i =>
    have hi : i.size = k := by simpa [hq] using hs
    simp [Builtin.copy_, run_underlying hu, Builtin.lenOf, Builtin.firstCells, sizeOf, typeInfo, hq, hi, hl, hst]
theorem ins_list {α : Type} (C cs vs : List α) (a : Nat) (h : a + vs.length + cs.length ≤ C.length) :
    (((C.take (a + vs.length) ++ cs ++ C.drop (a + vs.length + cs.length)).take a ++ vs ++ (C.take (a + vs.length) ++ cs ++ C.drop (a + vs.length + cs.length)).drop (a + vs.length)).take (a + vs.length + cs.length)) = C.take a ++ vs ++ cs := by
  have h1 : (C.take (a + vs.length)).length = a + vs.length := by rw [List.length_take]; omega
  have e1 : (C.take (a + vs.length) ++ cs ++ C.drop (a + vs.length + cs.length)).take a = C.take a := by
    rw [List.append_assoc, List.take_append_of_le_length (by omega), List.take_take]
    congr 1; omega
  have e2 : (C.take (a + vs.length) ++ cs ++ C.drop (a + vs.length + cs.length)).drop (a + vs.length) = cs ++ C.drop (a + vs.length + cs.length) := by
    rw [List.append_assoc, List.drop_append_of_le_length (by omega), List.drop_eq_nil_of_le (by omega), List.nil_append]
  rw [e1, e2, ← List.append_assoc, List.take_append_of_le_length (by simp; omega), List.take_of_length_le (by simp; omega)]
theorem append_roomK {P : Program} {w : World} {t tx ty el : TypeId} {inf : TypeInfo} {k : Nat} (ht : P.underlying t = some (.slice el)) (hi : P.info? el = some inf) (hk : inf.size = k) {b sLen sCap m : Nat} {x : Value} {news : List Value} (hs : Src P k tx x m news w)
    (hroom : sLen + m ≤ sCap) {c : Array Value} {el' : TypeId} {fz : Nat × Nat} (hblk : Block w b c el' fz) (hcs : sLen * k + news.length ≤ c.size) (hsg : ∀ v ∈ news, Single v) (hfz : ∀ o, o ≤ c.size → ¬ (fz.1 ≤ o ∧ o < fz.2)) :
    (Builtin.append_ #[t, tx] ty #[.slice (some ⟨b, 0, none⟩) sLen sCap, x]).run P w = .ok (.slice (some ⟨b, 0, none⟩) (sLen + m) sCap) (World.put w b (c.toList.take (sLen * k) ++ news ++ c.toList.drop (sLen * k + news.length)).toArray el' fz) := by
  subst hk
  obtain ⟨c', h1, h2⟩ := run_append_room_own (ty := ty) ht hi hs hroom hblk hcs hsg hfz
  have : c' = (c.toList.take (sLen * inf.size) ++ news ++ c.toList.drop (sLen * inf.size + news.length)).toArray := by rw [← h2]
  rw [← this]
  exact h1
theorem put_alloc {w : World} {c c' : Array Value} {t : TypeId} : World.put (w.alloc (.cells c t)) w.heap.size c' t (0, 0) = w.alloc (.cells c' t) := by
  show ({ heap := (w.heap.push _).setIfInBounds _ _, tape := _, drawn := _, os := _, output := _ } : World) = { heap := w.heap.push _, tape := _, drawn := _, os := _, output := _ }
  congr 1
  apply Array.ext_getElem?
  intro j
  rw [Array.getElem?_setIfInBounds]
  by_cases hj : w.heap.size = j
  · subst hj; simp
  · rw [if_neg hj]
    by_cases hl : j < w.heap.size
    · rw [Array.getElem?_push_lt hl, Array.getElem?_push_lt hl]
    · rw [Array.getElem?_eq_none (by simp; omega), Array.getElem?_eq_none (by simp; omega)]
theorem block_alloc {w : World} {c : Array Value} {t : TypeId} : Block (w.alloc (.cells c t)) w.heap.size c t (0, 0) := by
  show (w.heap.push _)[w.heap.size]? = _
  simp
theorem block_alloc_old {w : World} {c c' : Array Value} {t t' : TypeId} {b : Nat} {fz : Nat × Nat} (h : Block w b c' t' fz) : Block (w.alloc (.cells c t)) b c' t' fz := by
  have hl := (Array.getElem?_eq_some_iff.1 h).1
  show (w.heap.push _)[b]? = _
  rw [Array.getElem?_push_lt hl]
  rw [← Array.getElem?_eq_getElem hl]
  exact h
theorem cellP {w : World} {b : Nat} {c : Array Value} {el : TypeId} {fz : Nat × Nat} (hB : Block w b c el fz) (o : Nat) : w.cell? ⟨b, o, none⟩ = c[o]? := by
  unfold World.cell?
  simp only [show w.heap[({ block := b, off := o } : Addr).block]? = some (.cells c el fz) from hB]
  rfl
theorem put_other {w : World} {b b' : Nat} {c : Array Value} {el : TypeId} {fz : Nat × Nat} {c' : Array Value} {el' : TypeId} {fz' : Nat × Nat} (h : Block w b' c' el' fz') (hne : b' ≠ b) : Block (World.put w b c el fz) b' c' el' fz' := by
  unfold Block World.put
  simp only
  rw [Array.getElem?_setIfInBounds_ne (Ne.symm hne)]
  exact h
theorem put_put {w : World} {b : Nat} {c c' : Array Value} {el : TypeId} {fz : Nat × Nat} : World.put (World.put w b c el fz) b c' el fz = World.put w b c' el fz := by
  unfold World.put
  simp
end Go.E

namespace Go.E
open Go Go.Proofs Go.RowKit Go.Lib
structure InsRuns (P : Program) (f : FuncId) (k by' : Nat) (te : TypeId) : Prop where
  shift : ∀ {b n cap i vb m vc : Nat} {c : Array Value} {el : TypeId} {fz : Nat × Nat} {vs : List Value} {cv : Array Value} {elv : TypeId} {fv : Nat × Nat} {w : World}, Block w b c el fz → c.size = cap * k → (∀ o, o ≤ c.size → ¬ (fz.1 ≤ o ∧ o < fz.2)) → (∀ v ∈ c.toList.take (n * k), Single v) →
    Block w vb cv elv fv → (∀ o, o ≤ cv.size → ¬ (fv.1 ≤ o ∧ o < fv.2)) → vb ≠ b → vs.length = m * k → cv.size = vc * k → m ≤ vc → cv.toList.take (m * k) = vs → (∀ v ∈ vs, Single v) → i < n → 0 < m → n + m ≤ cap → n + m ≤ 9223372036854775807 →
    Calls P f #[.slice (some ⟨b, 0, none⟩) n cap, .int .i64 i, .slice (some ⟨vb, 0, none⟩) m vc] w fun e w' => e = .returned (.slice (some ⟨b, 0, none⟩) (n + m) cap) ∧ ∃ c' q, w' = (World.put w b c' el fz).drewN q ∧ c'.size = c.size ∧
      c'.toList.take ((n + m) * k) = c.toList.take (i * k) ++ vs ++ (c.toList.take (n * k)).drop (i * k)
  room : ∀ {b n cap vb m vc : Nat} {c : Array Value} {el : TypeId} {fz : Nat × Nat} {vs : List Value} {cv : Array Value} {elv : TypeId} {fv : Nat × Nat} {w : World}, Block w b c el fz → c.size = cap * k → (∀ o, o ≤ c.size → ¬ (fz.1 ≤ o ∧ o < fz.2)) →
    Block w vb cv elv fv → vs.length = m * k → cv.toList.take (m * k) = vs → (∀ v ∈ vs, Single v) → 0 < m → n + m ≤ cap → n + m ≤ 9223372036854775807 →
    Calls P f #[.slice (some ⟨b, 0, none⟩) n cap, .int .i64 n, .slice (some ⟨vb, 0, none⟩) m vc] w fun e w' => e = .returned (.slice (some ⟨b, 0, none⟩) (n + m) cap) ∧ ∃ c' q, w' = (World.put w b c' el fz).drewN q ∧ c'.size = c.size ∧
      c'.toList.take ((n + m) * k) = c.toList.take (n * k) ++ vs ++ (c.toList.take (n * k)).drop (n * k)
  endg : ∀ {base : Option Addr} {n cap vb m vc : Nat} {olds vs : List Value} {cv : Array Value} {elv : TypeId} {fv : Nat × Nat} {w : World}, n ≤ cap → (Builtin.firstCells k n (.slice base n cap)).run P w.drew = .ok olds.toArray w.drew → olds.length = n * k →
    Block w vb cv elv fv → vs.length = m * k → cv.toList.take (m * k) = vs → (∀ v ∈ vs, Single v) → 0 < m → cap < n + m → (n + m) * by' ≤ 140737488355328 →
    Calls P f #[.slice base n cap, .int .i64 n, .slice (some ⟨vb, 0, none⟩) m vc] w fun e w' => e = .returned (.slice (some ⟨w.heap.size, 0, none⟩) (n + m) (grownCap w (n + m) cap te)) ∧ ∃ c' q, w' = (w.alloc (.cells c' te)).drewN q ∧ c'.size = grownCap w (n + m) cap te * k ∧ n + m ≤ grownCap w (n + m) cap te ∧
      c'.toList.take ((n + m) * k) = olds ++ vs
  grow : ∀ {b n cap i vb m vc : Nat} {c : Array Value} {el : TypeId} {fz : Nat × Nat} {vs : List Value} {cv : Array Value} {elv : TypeId} {fv : Nat × Nat} {w : World}, Block w b c el fz → c.size = cap * k → n ≤ cap → (∀ v ∈ c.toList.take (n * k), Single v) →
    Block w vb cv elv fv → vs.length = m * k → cv.toList.take (m * k) = vs → (∀ v ∈ vs, Single v) → i < n → 0 < m → cap < n + m → (n + m) * by' ≤ 140737488355328 →
    Calls P f #[.slice (some ⟨b, 0, none⟩) n cap, .int .i64 i, .slice (some ⟨vb, 0, none⟩) m vc] w fun e w' => e = .returned (.slice (some ⟨w.heap.size, 0, none⟩) (n + m) (grownCap w (n + m) cap te)) ∧ ∃ c' q, w' = (w.alloc (.cells c' te)).drewN q ∧ c'.size = grownCap w (n + m) cap te * k ∧ n + m ≤ grownCap w (n + m) cap te ∧
      c'.toList.take ((n + m) * k) = c.toList.take (i * k) ++ vs ++ (c.toList.take (n * k)).drop (i * k)
section
variable {g0 : Gh} {I A : Foot} {w w' : World} {vs : Array Value} {es : List LT} {ms : List M} {rows : List (List T)}
theorem ret_own {args : List Arg} {owns : List (List (Option (List LT × List M × List (List T))))} {h : Value} {F : Foot} (hno' : ∀ i j, ownOf ⟨[.one (.own [7000000] es ms rows)], owns, []⟩ i j = none) (hp : Pre g0 I A args w vs) (hk : Keeps (fun b o => I b o ∨ A b o) w w')
    (hrow : RowOwn w' I es ms rows h F) (hI : Foot.apart F I) (hA : Foot.apart F A) (hs : Single h) :
    RetR g0 I A args w ⟨[.one (.own [7000000] es ms rows)], owns, []⟩ (g0.set [7000000] h F) I w' h := by
  have hno : ∀ {i j : Nat} {x : List LT × List M × List (List T)}, ownOf ⟨[.one (.own [7000000] es ms rows)], owns, []⟩ i j ≠ some x := by
    intro i j x
    rw [hno']
    exact fun h => nomatch h
  have hout : ∀ {k : Key}, Out ⟨[.one (.own [7000000] es ms rows)], owns, []⟩ k → k = [7000000] := by
    intro k h
    rcases h with h | ⟨i, j, ⟨y, h⟩ | ⟨-, ls, h⟩, rfl⟩
    · simpa [retKeys, keysOfR] using h
    · exact absurd h hno
    · simp [bxOf] at h
  refine ⟨⟨[h], rfl, ⟨hs, ?_⟩, trivial⟩, fun i j es1 ms1 rows1 h => absurd h hno, fun i ls h => by simp [bxOf] at h, by simp [retKeys, keysOfR], fun k hk i j hij => ?_, fun k k' h h' hne => absurd ((hout h).trans (hout h').symm) hne, fun k h => ?_, fun k h => ?_, fun _ _ h => h, fun _ _ h _ => h, fun b o hi => ?_, hk⟩
  · exact ⟨by rw [Gh.set_h], by rw [Gh.set_F]; exact hrow⟩
  · rcases hij with ⟨y, h⟩ | ⟨-, ls, h⟩
    · exact absurd h hno
    · simp [bxOf] at h
  · rw [hout h, Gh.set_F]; exact hI
  · rw [hout h, Gh.set_F]; exact hA
  · obtain ⟨v, hv⟩ := hp.iwf b o hi
    exact ⟨v, (hk.cell (.inl hi) ⟨v, hv⟩).trans hv⟩
theorem noO_map (es : List LT) : noO (es.map fun _ => M.F) := fun m hm x => by
  obtain ⟨_, -, rfl⟩ := List.mem_map.1 hm
  exact fun h => nomatch h
theorem own_flat {I F : Foot} {h : Value} (hf : flatLs es = true) (hr : RowOwn w I es ms rows h F) :
    es ≠ [] ∧ rows.length ≤ maxCells ∧ (((∃ a, h = .slice a 0 0) ∧ rows = [] ∧ ∀ b o, ¬ F b o) ∨
      ∃ b cap c el fz, h = .slice (some ⟨b, 0, none⟩) rows.length cap ∧ rows.length ≤ cap ∧ Block w b c el fz ∧ c.size = cap * es.length ∧ (∀ o, o ≤ c.size → ¬ (fz.1 ≤ o ∧ o < fz.2)) ∧ (∀ o, o < c.size → F b o) ∧
        ∀ J i, RowsV w J es (rows.take i) (c.toList.take (i * es.length)) ∧ RowsV w J es (rows.drop i) ((c.toList.take (rows.length * es.length)).drop (i * es.length))) := by
  obtain ⟨h1, h2, h3 | ⟨b, cap, c, el, fz, bs, e1, hcap, hB, hsz, hfz, hro, -, hF⟩⟩ := hr.cases
  · exact ⟨h1, h2, .inl h3⟩
  · refine ⟨h1, h2, .inr ⟨b, cap, c, el, fz, e1, hcap, hB, hsz, hfz, fun o ho => (hF b o).2 (.inl ⟨rfl, ho⟩), fun J i => ?_⟩⟩
    obtain ⟨b1, b2, -, ha, hb⟩ := RowsOf.split i hro
    have ha' := RowsOf.cells (cs' := c.toList.take (i * es.length)) ha (by rw [List.take_take, List.length_take]; congr 1; exact Nat.min_eq_left (Nat.mul_le_mul_right _ (Nat.min_le_left _ _)))
    have hb' := RowsOf.cells (cs' := (c.toList.take (rows.length * es.length)).drop (i * es.length)) hb (by
      rw [List.length_drop, Nat.sub_mul, List.take_drop, List.take_drop, List.take_take]
      by_cases hle : i * es.length ≤ rows.length * es.length
      · rw [Nat.add_sub_of_le hle, Nat.min_self]
      · rw [Nat.sub_eq_zero_of_le (by omega), Nat.add_zero, Nat.min_eq_right (by omega)]
        rw [List.drop_eq_nil_of_le (by rw [List.length_take]; omega), List.drop_eq_nil_of_le (by rw [List.length_take]; omega)])
    exact ⟨(RowsOf.toV (S := fun _ _ => True) (fun _ _ _ => trivial) (fun _ _ _ => trivial) ha').flat hf, (RowsOf.toV (S := fun _ _ => True) (fun _ _ _ => trivial) (fun _ _ _ => trivial) hb').flat hf⟩
end
def primInsert (es : List LT) : List Arg → R3 Ret
  | [.one (.own es1 _ rows), .one (.sc (.int .i64) d), .one (.own es2 _ vs)] =>
    cond (LT.beqs es es1 && LT.beqs es es2) (cond (decide (0 ≤ d.int ∧ d.int ≤ (rows.length : Int)) && decide (0 < vs.length) && decide ((rows.length + vs.length) * es.length ≤ maxRow))
      (.ok ⟨[.one (.own [7000000] es (es.map fun _ => .F) (rows.take d.int.toNat ++ vs ++ rows.drop d.int.toNat))], [[none], [none], [none]], []⟩) .bad) .bad
  | _ => .bad
theorem primInsert_ok {P : Program} {f : FuncId} {es : List LT} {by' : Nat} {te : TypeId} (hf : flatLs es = true) (hb : by' ≤ 16 * es.length) (L : InsRuns P f es.length by' te) {args : List Arg} (h : primInsert es args ≠ .bad) : FnOk P f args (primInsert es args) := by
  unfold primInsert at h ⊢
  split at h
  · rename_i es1 ms rows d es2 ms2 vs
    cases hc : (LT.beqs es es1 && LT.beqs es es2) with
    | false => rw [hc] at h; exact absurd rfl h
    | true =>
      cases hm : (decide (0 ≤ d.int ∧ d.int ≤ (rows.length : Int)) && decide (0 < vs.length) && decide ((rows.length + vs.length) * es.length ≤ maxRow)) with
      | false => rw [hc, hm] at h; exact absurd rfl h
      | true =>
        simp only [Bool.and_eq_true] at hc hm
        obtain rfl := LT.beqs_eq hc.1
        obtain rfl := LT.beqs_eq hc.2
        obtain ⟨⟨hd, hv0⟩, hmr⟩ := hm
        have hd := of_decide_eq_true hd
        have hv0 := of_decide_eq_true hv0
        have hmr := of_decide_eq_true hmr
        intro g0 I A w vals hp
        obtain ⟨v1, v2, v3, rfl, h1, h2, h3⟩ : ∃ v1 v2 v3, vals = #[v1, v2, v3] ∧ AlR g0 w I 0 0 (.own es ms rows) v1 ∧ ScR (.int .i64) v2 d ∧ AlR g0 w I 2 0 (.own es ms2 vs) v3 := by
          have hrel := hp.rel
          match hl : vals.toList, hrel with
          | [v1, v2, v3], hrel => exact ⟨v1, v2, v3, Array.toList_inj.1 (by simpa using hl), hrel.1, hrel.2.1, hrel.2.2.1⟩
          | [], hrel => exact hrel.elim
          | [_], hrel => exact hrel.2.elim
          | [_, _], hrel => exact hrel.2.2.elim
          | _ :: _ :: _ :: _ :: _, hrel => exact hrel.2.2.2.elim
        obtain ⟨e1, hr1⟩ := h1
        obtain ⟨n2, rfl, rfl, -, -⟩ := h2
        obtain ⟨e3, hr3⟩ := h3
        simp only [T.int] at hd ⊢
        have hh0 : Held [.one (.own es ms rows), .one (.sc (.int .i64) (.i n2)), .one (.own es ms2 vs)] [0, 0] := trivial
        have hh2 : Held [.one (.own es ms rows), .one (.sc (.int .i64) (.i n2)), .one (.own es ms2 vs)] [2, 0] := trivial
        obtain ⟨hes, hmax, ho1⟩ := own_flat hf hr1
        obtain ⟨-, hmax3, ho3⟩ := own_flat hf hr3
        have hk0 : 0 < es.length := List.length_pos_iff.2 hes
        obtain ⟨i, rfl⟩ : ∃ i : Nat, n2 = (i : Int) := ⟨n2.toNat, by omega⟩
        have hi : i ≤ rows.length := by omega
        have hno : ∀ a b, ownOf ⟨[.one (.own [7000000] es (es.map fun _ => .F) (rows.take i ++ vs ++ rows.drop i))], [[none], [none], [none]], []⟩ a b = none := fun a b => by
          unfold ownOf
          match a, b with
          | 0, 0 => rfl
          | 0, j + 1 => rfl
          | 1, 0 => rfl
          | 1, j + 1 => rfl
          | 2, 0 => rfl
          | 2, j + 1 => rfl
          | a + 3, j => rfl
        rcases ho3 with ⟨-, rfl, -⟩ | ⟨vb, vc, cv, elv, fv, e3', hcv, hBv, hszv, hfzv, hFv, hRv⟩
        · simp at hv0
        rw [e3'] at e3
        have hRv0 := fun J => (hRv J vs.length).1
        rw [List.take_length] at hRv0
        obtain ⟨vcs, hvcs⟩ : ∃ vcs, vcs = cv.toList.take (vs.length * es.length) := ⟨_, rfl⟩
        have htl : ∀ (c : Array Value) (n cap : Nat), c.size = cap * es.length → n ≤ cap → (c.toList.take (n * es.length)).length = n * es.length := fun c n cap h1 h2 => by
          have := Nat.mul_le_mul_right es.length h2
          rw [List.length_take]
          simp only [Array.length_toList]
          omega
        have hvl : vcs.length = vs.length * es.length := by rw [hvcs]; exact htl cv _ _ hszv hcv
        rw [← hvcs] at hRv0
        have hSv : ∀ v ∈ vcs, Single v := (hRv0 I).single hvl
        have hbig : (rows.length + vs.length) * by' ≤ 140737488355328 := by
          have h1 : (rows.length + vs.length) * by' ≤ (rows.length + vs.length) * (16 * es.length) := Nat.mul_le_mul_left _ hb
          have h2 : (rows.length + vs.length) * (16 * es.length) = 16 * ((rows.length + vs.length) * es.length) := by rw [Nat.mul_left_comm]
          unfold maxRow at hmr
          omega
        have hcap63 : rows.length + vs.length ≤ 9223372036854775807 := by
          have := Nat.le_mul_of_pos_right (rows.length + vs.length) hk0
          unfold maxRow at hmr
          omega
        have hle1 : (rows.length + vs.length) ≤ (rows.length + vs.length) * es.length := Nat.le_mul_of_pos_right _ hk0
        have hmaxr : (rows.take i ++ vs ++ rows.drop i).length = rows.length + vs.length := by simp; omega
        have fin : ∀ (W' : World) (b cap : Nat) (c' : Array Value) (el : TypeId) (fz : Nat × Nat) (F : Foot) (pre post : List Value), Block W' b c' el fz → c'.size = cap * es.length → (∀ o, o ≤ c'.size → ¬ (fz.1 ≤ o ∧ o < fz.2)) → rows.length + vs.length ≤ cap →
            c'.toList.take ((rows.length + vs.length) * es.length) = pre ++ vcs ++ post → (∀ J, RowsV w J es (rows.take i) pre) → pre.length = i * es.length → (∀ J, RowsV w J es (rows.drop i) post) → (∀ b' o, F b' o ↔ b' = b ∧ o < c'.size) →
            RowOwn W' I es (es.map fun _ => .F) (rows.take i ++ vs ++ rows.drop i) (.slice (some ⟨b, 0, none⟩) (rows.length + vs.length) cap) F := by
          intro W' b cap c' el fz F pre post hB hsz hfz hcap ht hpre hprel hpost hF
          rw [← hmaxr]
          have r1 := (((hpre I).flat (w' := W') (I' := I) hf).app (by rw [hprel, List.length_take, Nat.min_eq_left hi]) ((hRv0 I).flat (w' := W') (I' := I) hf))
          have r2 := r1.app (by rw [List.length_append, hprel, hvl, List.length_append, List.length_take, Nat.min_eq_left hi, Nat.add_mul]) ((hpost I).flat (w' := W') (I' := I) hf)
          rw [← ht] at r2
          have r3 := r2.tail (cs' := c'.toList.drop ((rows.length + vs.length) * es.length))
          rw [List.take_append_drop] at r3
          exact RowOwn.mk' (bs := []) hes (by rw [hmaxr]; unfold maxCells; unfold maxRow at hmr; omega) (by rw [hmaxr]; exact hcap) hB hsz hfz (r3.toM (noO_map es)) ⟨fun h => (nomatch h), trivial⟩
            (fun b' o => (hF b' o).trans ⟨.inl, fun h => h.elim (fun h => h) fun h => (nomatch h.1)⟩)
        have hsingle : ∀ (a : Option Addr) (n c : Nat), Single (.slice a n c) := fun _ _ _ => ⟨fun _ h => (nomatch h), fun _ h => (nomatch h)⟩
        have inplace : ∀ (b cap : Nat) (c c' : Array Value) (el : TypeId) (fz : Nat × Nat) (q : Nat), Block w b c el fz → c.size = cap * es.length → (∀ o, o ≤ c.size → ¬ (fz.1 ≤ o ∧ o < fz.2)) → (∀ o, o < c.size → g0.F [0, 0] b o) → rows.length + vs.length ≤ cap → c'.size = c.size →
            (∀ J i, RowsV w J es (rows.take i) (c.toList.take (i * es.length)) ∧ RowsV w J es (rows.drop i) ((c.toList.take (rows.length * es.length)).drop (i * es.length))) →
            c'.toList.take ((rows.length + vs.length) * es.length) = c.toList.take (i * es.length) ++ vcs ++ (c.toList.take (rows.length * es.length)).drop (i * es.length) →
            ∃ ret g' I', R3.ok (⟨[.one (.own [7000000] es (es.map fun _ => .F) (rows.take i ++ vs ++ rows.drop i))], [[none], [none], [none]], []⟩ : Ret) = .ok ret ∧ RetR g0 I A [.one (.own es ms rows), .one (.sc (.int .i64) (.i (i : Int))), .one (.own es ms2 vs)] w ret g' I' ((World.put w b c' el fz).drewN q) (.slice (some ⟨b, 0, none⟩) (rows.length + vs.length) cap) := by
          intro b cap c c' el fz q hB hsz hfz hF hcap hs' hR ht
          have hB' : Block ((World.put w b c' el fz).drewN q) b c' el fz := put_block hB
          have hRow := fin _ b cap c' el fz (fun b' o => b' = b ∧ o < c'.size) _ _ hB' (by omega) (by rw [hs']; exact hfz) hcap ht (fun J => (hR J i).1) (htl c _ _ hsz (by omega)) (fun J => (hR J i).2) (fun _ _ => Iff.rfl)
          refine ⟨_, _, I, rfl, ret_own hno hp ?_ hRow (fun b' o h1 h2 => ?_) (fun b' o h1 h2 => ?_) (hsingle _ _ _)⟩
          · refine Keeps.trans (fun _ _ h => h) (put_keeps hB hs' (A := fun b o => I b o ∨ A b o) fun o ho => ?_) ((keeps_drawn _ _).weaken fun _ _ _ => trivial)
            by_cases hlt : o < c.size
            · exact absurd (hF o hlt) (fun h => ho.elim (hp.imm _ hh0 b o h) (hp.frm _ hh0 b o h))
            · rw [Array.getElem?_eq_none (by omega), Array.getElem?_eq_none (by omega)]
          · obtain ⟨rfl, h1⟩ := h1
            exact hp.imm _ hh0 _ o (hF o (by omega)) h2
          · obtain ⟨rfl, h1⟩ := h1
            exact hp.frm _ hh0 _ o (hF o (by omega)) h2
        have anew : ∀ (cap : Nat) (c' : Array Value) (q : Nat) (pre post : List Value), c'.size = cap * es.length → rows.length + vs.length ≤ cap → c'.toList.take ((rows.length + vs.length) * es.length) = pre ++ vcs ++ post → (∀ J, RowsV w J es (rows.take i) pre) → pre.length = i * es.length → (∀ J, RowsV w J es (rows.drop i) post) →
            ∃ ret g' I', R3.ok (⟨[.one (.own [7000000] es (es.map fun _ => .F) (rows.take i ++ vs ++ rows.drop i))], [[none], [none], [none]], []⟩ : Ret) = .ok ret ∧ RetR g0 I A [.one (.own es ms rows), .one (.sc (.int .i64) (.i (i : Int))), .one (.own es ms2 vs)] w ret g' I' ((w.alloc (.cells c' te)).drewN q) (.slice (some ⟨w.heap.size, 0, none⟩) (rows.length + vs.length) cap) := by
          intro cap c' q pre post hsz hcap ht hpre hprel hpost
          have hB' : Block ((w.alloc (.cells c' te)).drewN q) w.heap.size c' te (0, 0) := block_alloc
          have hRow := fin _ _ cap c' te (0, 0) (fun b' o => b' = w.heap.size ∧ o < c'.size) pre post hB' hsz (fun o _ => by simp) hcap ht hpre hprel hpost (fun _ _ => Iff.rfl)
          refine ⟨_, _, I, rfl, ret_own hno hp ?_ hRow (fun b' o h1 h2 => ?_) (fun b' o h1 h2 => ?_) (hsingle _ _ _)⟩
          · exact Keeps.trans (fun _ _ h => h) ((keeps_push w _).weaken fun _ _ _ => trivial) ((keeps_drawn _ _).weaken fun _ _ _ => trivial)
          · obtain ⟨rfl, -⟩ := h1
            exact absurd (cell_lt (hp.iwf _ o h2)) (by omega)
          · obtain ⟨rfl, -⟩ := h1
            exact absurd (cell_lt (hp.awf _ o h2)) (by omega)
        rcases ho1 with ⟨⟨aa, e1'⟩, rfl, -⟩ | ⟨b, cap, c, el, fz, e1', hcap, hB, hsz, hfz, hFb, hR⟩
        · rw [e1', e3']
          have h0 : i = 0 := by simpa using hi
          subst h0
          have hnil : (Builtin.firstCells es.length 0 (.slice aa 0 0)).run P w.drew = .ok ([] : List Value).toArray w.drew := by
            cases aa with
            | none => exact run_firstCells_none w.drew es.length 0 0 0
            | some a => exact run_firstCells_some w.drew es.length 0 a 0 0 [] (by simp) (by simp)
          refine (L.endg (base := aa) (n := 0) (cap := 0) (Nat.le_refl _) hnil (by simp) hBv hvl hvcs.symm hSv hv0 (by omega) (by simpa using hbig)).mono ?_
          rintro e w' ⟨rfl, c', q, rfl, h2, h3, h4⟩
          have := anew _ c' q [] [] (by simpa using h2) (by simpa using h3) (by simpa using h4) (fun J => trivial) (by simp) (fun J => trivial)
          simpa using this
        · rw [e1', e3']
          have hScells : ∀ v ∈ c.toList.take (rows.length * es.length), Single v := by
            have := (hR I rows.length).1
            rw [List.take_length] at this
            exact this.single (htl c _ _ hsz hcap)
          have hne : vb ≠ b := by
            intro e
            subst e
            have hh := hp.sep [0, 0] [2, 0] hh0 hh2 (by decide)
            have hcc : (Obj.cells c el fz) = Obj.cells cv elv fv := Option.some.inj (hB.symm.trans hBv)
            obtain ⟨rfl, -, -⟩ := Obj.cells.inj hcc
            have h0 : 0 < c.size := by rw [hszv]; exact Nat.mul_pos (by omega) hk0
            exact hh vb 0 (hFb 0 h0) (hFv 0 h0)
          by_cases hin : i = rows.length
          · subst hin
            by_cases hroom : rows.length + vs.length ≤ cap
            · refine (L.room hB hsz hfz hBv hvl hvcs.symm hSv hv0 hroom hcap63).mono ?_
              rintro e w' ⟨rfl, c', q, rfl, h2, h3⟩
              exact inplace b cap c c' el fz q hB hsz hfz hFb hroom h2 hR h3
            · have hold : (Builtin.firstCells es.length rows.length (.slice (some ⟨b, 0, none⟩) rows.length cap)).run P w.drew = .ok (c.toList.take (rows.length * es.length)).toArray w.drew :=
                run_firstCells_some w.drew es.length rows.length ⟨b, 0, none⟩ rows.length cap _ (htl c _ _ hsz hcap) (fun j v hj => by
                  rw [Go.E.addr_add, Nat.zero_add]
                  show w.cell? _ = _
                  rw [cellP hB]
                  rw [List.getElem?_take] at hj
                  split at hj
                  · simpa using hj
                  · cases hj)
              refine (L.endg (base := some ⟨b, 0, none⟩) hcap hold (htl c _ _ hsz hcap) hBv hvl hvcs.symm hSv hv0 (by omega) hbig).mono ?_
              rintro e w' ⟨rfl, c', q, rfl, h2, h3, h4⟩
              refine anew _ c' q (c.toList.take (rows.length * es.length)) [] h2 h3 (by rw [List.append_nil]; exact h4) (fun J => (hR J rows.length).1) (htl c _ _ hsz hcap) (fun J => by rw [List.drop_length]; trivial)
          · have hlt : i < rows.length := by omega
            by_cases hroom : rows.length + vs.length ≤ cap
            · refine (L.shift hB hsz hfz hScells hBv hfzv hne hvl hszv hcv hvcs.symm hSv hlt hv0 hroom hcap63).mono ?_
              rintro e w' ⟨rfl, c', q, rfl, h2, h3⟩
              exact inplace b cap c c' el fz q hB hsz hfz hFb hroom h2 hR h3
            · refine (L.grow hB hsz hcap hScells hBv hvl hvcs.symm hSv hlt hv0 (by omega) hbig).mono ?_
              rintro e w' ⟨rfl, c', q, rfl, h2, h3, h4⟩
              exact anew _ c' q _ _ h2 h3 h4 (fun J => (hR J i).1) (htl c _ _ hsz (by omega)) (fun J => (hR J i).2)
  · exact absurd rfl h
end Go.E

namespace Go.E
open Go
def M32 : Nat := 4294967296
def rotN (x n : Nat) : Nat := ((x / 2 ^ n) ||| (x * 2 ^ (32 - n))) % M32
def sg0 (x : Nat) : Nat := rotN x 7 ^^^ rotN x 18 ^^^ (x / 2 ^ 3)
def sg1 (x : Nat) : Nat := rotN x 17 ^^^ rotN x 19 ^^^ (x / 2 ^ 10)
def padN (b : List Nat) : List Nat := b ++ [128] ++ List.replicate ((119 - b.length % 64) % 64) 0 ++ ((List.range 8).map fun i => (8 * b.length / 2 ^ (56 - 8 * i)) % 256)
def w16 (b : List Nat) : List Nat := (List.range 16).map fun i => ((b.getD (4 * i) 0 * 2 ^ 24 ||| b.getD (4 * i + 1) 0 * 2 ^ 16) ||| b.getD (4 * i + 2) 0 * 2 ^ 8) ||| b.getD (4 * i + 3) 0
def wExt : Nat → List Nat → List Nat
  | 0, w => w
  | n + 1, w => wExt n (w ++ [(w.getD (w.length - 16) 0 + sg0 (w.getD (w.length - 15) 0) + w.getD (w.length - 7) 0 + sg1 (w.getD (w.length - 2) 0)) % M32])
def words (b : List Nat) : List Nat := wExt 48 (w16 b)
def turn1 (v : List Nat) (k w : Nat) : List Nat :=
  let e := v.getD 4 0
  let a := v.getD 0 0
  let s1 := rotN e 6 ^^^ rotN e 11 ^^^ rotN e 25
  let ch := (e &&& v.getD 5 0) ^^^ ((M32 - 1 - e) &&& v.getD 6 0)
  let t1 := v.getD 7 0 + s1 + ch + k + w
  let s0 := rotN a 2 ^^^ rotN a 13 ^^^ rotN a 22
  let maj := (a &&& v.getD 1 0) ^^^ (a &&& v.getD 2 0) ^^^ (v.getD 1 0 &&& v.getD 2 0)
  [(t1 + s0 + maj) % M32, a, v.getD 1 0, v.getD 2 0, (v.getD 3 0 + t1) % M32, e, v.getD 5 0, v.getD 6 0]
def turns : List Nat → List Nat → List Nat → List Nat
  | k :: ks, w :: ws, v => turns ks ws (turn1 v k w)
  | _, _, v => v
def blockN (k : List Nat) (h b : List Nat) : List Nat := (List.range 8).map fun i => ((turns k (words b) h).getD i 0 + h.getD i 0) % M32
def blocksN (k : List Nat) : Nat → List Nat → List Nat → List Nat
  | 0, h, _ => h
  | n + 1, h, b => blocksN k n (blockN k h (b.take 64)) (b.drop 64)
def kN : List Nat := [
  0x428a2f98, 0x71374491, 0xb5c0fbcf, 0xe9b5dba5, 0x3956c25b, 0x59f111f1, 0x923f82a4, 0xab1c5ed5,
  0xd807aa98, 0x12835b01, 0x243185be, 0x550c7dc3, 0x72be5d74, 0x80deb1fe, 0x9bdc06a7, 0xc19bf174,
  0xe49b69c1, 0xefbe4786, 0x0fc19dc6, 0x240ca1cc, 0x2de92c6f, 0x4a7484aa, 0x5cb0a9dc, 0x76f988da,
  0x983e5152, 0xa831c66d, 0xb00327c8, 0xbf597fc7, 0xc6e00bf3, 0xd5a79147, 0x06ca6351, 0x14292967,
  0x27b70a85, 0x2e1b2138, 0x4d2c6dfc, 0x53380d13, 0x650a7354, 0x766a0abb, 0x81c2c92e, 0x92722c85,
  0xa2bfe8a1, 0xa81a664b, 0xc24b8b70, 0xc76c51a3, 0xd192e819, 0xd6990624, 0xf40e3585, 0x106aa070,
  0x19a4c116, 0x1e376c08, 0x2748774c, 0x34b0bcb5, 0x391c0cb3, 0x4ed8aa4a, 0x5b9cca4f, 0x682e6ff3,
  0x748f82ee, 0x78a5636f, 0x84c87814, 0x8cc70208, 0x90befffa, 0xa4506ceb, 0xbef9a3f7, 0xc67178f2]
def h0N : List Nat := [0x6a09e667, 0xbb67ae85, 0x3c6ef372, 0xa54ff53a, 0x510e527f, 0x9b05688c, 0x1f83d9ab, 0x5be0cd19]
def digestN (b : List Nat) : List Nat := (blocksN kN ((padN b).length / 64) h0N (padN b)).flatMap fun x => [x / 2 ^ 24 % 256, x / 2 ^ 16 % 256, x / 2 ^ 8 % 256, x % 256]
def digestB (rows : List (List T)) : ByteArray := ⟨((digestN (rows.map fun r => (r.getD 0 dflt).int.toNat)).map UInt8.ofNat).toArray⟩
def primDigest : List Arg → R3 Ret
  | [.one (.dz [.sc (.int .u8)] rows)] => cond (decide (rows.length ≤ 1073741824)) (.ok ⟨[.one (.sc .str (.s (digestB rows)))], [[none]], []⟩) .bad
  | [.one (.dz [] rows)] => cond rows.isEmpty (.ok ⟨[.one (.sc .str (.s (digestB [])))], [[none]], []⟩) .bad
  | _ => .bad
theorem of64 {x : Nat} (h : x < 9223372036854775808) : (BitVec.ofInt 64 (x : Int)) = BitVec.ofNat 64 x := by simp
theorem back64 {x : BitVec 64} (h : x.toNat < 9223372036854775808) : bvBack .i64 x = .i (x.toNat : Int) := by
  have : IntKind.i64.wrap ((x.toNat : Nat) : Int) = (x.toNat : Int) := wrap_i64 (by omega) (by omega)
  exact congrArg T.i this
theorem back64' {x : BitVec 64} {n : Nat} (e : x.toNat = n) (h : n < 9223372036854775808) : bvBack .i64 x = .i (n : Int) := by
  subst e; exact back64 h
theorem xor64 {a b : Nat} (ha : a < 9223372036854775808) (hb : b < 9223372036854775808) : bvBack .i64 (BitVec.ofInt IntKind.i64.bits (a : Int) ^^^ BitVec.ofInt IntKind.i64.bits (b : Int)) = .i ((a ^^^ b : Nat) : Int) := by
  have hx : a ^^^ b < 9223372036854775808 := Nat.xor_lt_two_pow (n := 63) ha hb
  have e : (BitVec.ofInt 64 (a : Int) ^^^ BitVec.ofInt 64 (b : Int)).toNat = a ^^^ b := by
    rw [of64 ha, of64 hb, BitVec.toNat_xor, BitVec.toNat_ofNat, BitVec.toNat_ofNat, Nat.mod_eq_of_lt (by omega), Nat.mod_eq_of_lt (by omega)]
  exact back64' e hx
theorem or64 {a b : Nat} (ha : a < 9223372036854775808) (hb : b < 9223372036854775808) : bvBack .i64 (BitVec.ofInt IntKind.i64.bits (a : Int) ||| BitVec.ofInt IntKind.i64.bits (b : Int)) = .i ((a ||| b : Nat) : Int) := by
  have hx : a ||| b < 9223372036854775808 := Nat.or_lt_two_pow (n := 63) ha hb
  have e : (BitVec.ofInt 64 (a : Int) ||| BitVec.ofInt 64 (b : Int)).toNat = a ||| b := by
    rw [of64 ha, of64 hb, BitVec.toNat_or, BitVec.toNat_ofNat, BitVec.toNat_ofNat, Nat.mod_eq_of_lt (by omega), Nat.mod_eq_of_lt (by omega)]
  exact back64' e hx
theorem and64 {a b : Nat} (ha : a < 9223372036854775808) (hb : b < 9223372036854775808) : bvBack .i64 (BitVec.ofInt IntKind.i64.bits (a : Int) &&& BitVec.ofInt IntKind.i64.bits (b : Int)) = .i ((a &&& b : Nat) : Int) := by
  have hx : a &&& b < 9223372036854775808 := Nat.lt_of_le_of_lt Nat.and_le_left ha
  have e : (BitVec.ofInt 64 (a : Int) &&& BitVec.ofInt 64 (b : Int)).toNat = a &&& b := by
    rw [of64 ha, of64 hb, BitVec.toNat_and, BitVec.toNat_ofNat, BitVec.toNat_ofNat, Nat.mod_eq_of_lt (by omega), Nat.mod_eq_of_lt (by omega)]
  exact back64' e hx
theorem mask64 {a : Nat} (ha : a < 9223372036854775808) : bvBack .i64 (BitVec.ofInt IntKind.i64.bits (a : Int) &&& BitVec.ofInt IntKind.i64.bits 4294967295) = .i ((a % M32 : Nat) : Int) := by
  have := and64 (a := a) (b := 4294967295) ha (by omega)
  rw [show ((4294967295 : Nat) : Int) = 4294967295 from rfl] at this
  rw [this]
  congr 2
  exact Nat.and_two_pow_sub_one_eq_mod a 32
theorem rotN_lt (x n : Nat) : rotN x n < 4294967296 := Nat.mod_lt _ (by unfold M32; omega)
end Go.E

namespace Go.Proofs.YtdhldbjjdlnbmaaGreat
open Go Go.E Go.Proofs
theorem lf1 {A B : Nat → Prop} (hl : ∀ n, A n → B n) (h0 : A 0) (hs : ∀ n, B n → A (n + 1)) : ∀ n, A n ∧ B n := fun n => by
  induction n with
  | zero => exact ⟨h0, hl 0 h0⟩
  | succ n ih => exact ⟨hs n ih.2, hl _ (hs n ih.2)⟩
theorem lf2 {A C B : Nat → Prop} (hl : ∀ n, A n → C n → B n) (h0 : A 0) (h1 : C 0) (hs : ∀ n, B n → A (n + 1)) (hs1 : ∀ n, B n → C (n + 1)) : ∀ n, A n ∧ C n ∧ B n := fun n => by
  induction n with
  | zero => exact ⟨h0, h1, hl 0 h0 h1⟩
  | succ n ih => exact ⟨hs n ih.2.2, hs1 n ih.2.2, hl _ (hs n ih.2.2) (hs1 n ih.2.2)⟩
noncomputable section
def tyTab : List (Option TI) := [
  none,
  some ⟨.other, [.sc (.any)], 8, false⟩,
  some ⟨.sc (.int .i64), [.sc (.int .i64)], 8, false⟩,
  some ⟨.sc (.int .i64), [.sc (.int .i64)], 8, false⟩,
  some ⟨.sc (.bool), [.sc (.bool)], 1, false⟩,
  some ⟨.sc (.int .u8), [.sc (.int .u8)], 1, false⟩,
  some ⟨.sc (.int .u8), [.sc (.int .u8)], 1, false⟩,
  some ⟨.struct [(0, 2), (1, 3), (2, 4), (3, 6)], [.sc (.int .i64), .sc (.int .i64), .sc (.bool), .sc (.int .u8)], 24, true⟩,
  some ⟨.struct [(0, 2), (1, 3), (2, 4), (3, 6)], [.sc (.int .i64), .sc (.int .i64), .sc (.bool), .sc (.int .u8)], 24, true⟩,
  some ⟨.sc (.str), [.sc (.str)], 16, false⟩,
  some ⟨.sc (.str), [.sc (.str)], 16, false⟩,
  some ⟨.sc (.str), [.sc (.str)], 16, false⟩,
  some ⟨.sc (.int .u64), [.sc (.int .u64)], 8, false⟩,
  some ⟨.struct [(0, 9), (1, 12)], [.sc (.str), .sc (.int .u64)], 24, false⟩,
  some ⟨.struct [(0, 9), (1, 12)], [.sc (.str), .sc (.int .u64)], 24, false⟩,
  some ⟨.ptr 136, [.sc (.any)], 8, false⟩,
  some ⟨.ptr 139, [.sc (.any)], 8, false⟩,
  some ⟨.ptr 148, [.sc (.any)], 8, false⟩,
  some ⟨.struct [(0, 17)], [.sc (.any)], 8, false⟩,
  some ⟨.struct [(0, 17)], [.sc (.any)], 8, false⟩,
  some ⟨.other, [.sc (.any)], 16, false⟩,
  some ⟨.sc (.int .i32), [.sc (.int .i32)], 4, false⟩,
  some ⟨.slice 9, [.sl [.sc (.str)]], 24, false⟩,
  some ⟨.slice 62, [.sl [.sc (.int .i64), .sc (.int .i64), .sl [.sc (.str), .sc (.str), .sl [.sc (.str)]]]], 24, false⟩,
  some ⟨.struct [(0, 3), (1, 9), (2, 22), (3, 23)], [.sc (.int .i64), .sc (.str), .sl [.sc (.str)], .sl [.sc (.int .i64), .sc (.int .i64), .sl [.sc (.str), .sc (.str), .sl [.sc (.str)]]]], 72, false⟩,
  some ⟨.struct [(0, 3), (1, 9), (2, 22), (3, 23)], [.sc (.int .i64), .sc (.str), .sl [.sc (.str)], .sl [.sc (.int .i64), .sc (.int .i64), .sl [.sc (.str), .sc (.str), .sl [.sc (.str)]]]], 72, false⟩,
  some ⟨.other, [.sc (.any)], 8, false⟩,
  some ⟨.slice 49, [.sl [.sc (.str), .sc (.str)]], 24, false⟩,
  none,
  some ⟨.other, [.sc (.any)], 8, false⟩,
  some ⟨.slice 46, [.sl [.sc (.int .i64), .sc (.int .i64), .sl [.sc (.str), .sc (.str), .sl [.sc (.str)]]]], 24, false⟩,
  some ⟨.struct [(0, 3), (1, 9), (2, 22), (3, 30)], [.sc (.int .i64), .sc (.str), .sl [.sc (.str)], .sl [.sc (.int .i64), .sc (.int .i64), .sl [.sc (.str), .sc (.str), .sl [.sc (.str)]]]], 72, false⟩,
  some ⟨.struct [(0, 3), (1, 9), (2, 22), (3, 30)], [.sc (.int .i64), .sc (.str), .sl [.sc (.str)], .sl [.sc (.int .i64), .sc (.int .i64), .sl [.sc (.str), .sc (.str), .sl [.sc (.str)]]]], 72, false⟩,
  some ⟨.other, [.sc (.any)], 8, false⟩,
  some ⟨.other, [.sc (.any)], 8, false⟩,
  some ⟨.other, [.sc (.any)], 8, false⟩,
  some ⟨.other, [.sc (.any)], 8, false⟩,
  some ⟨.other, [.sc (.any)], 8, false⟩,
  some ⟨.other, [.sc (.any)], 8, false⟩,
  some ⟨.other, [.sc (.any)], 8, false⟩,
  some ⟨.other, [.sc (.any)], 8, false⟩,
  some ⟨.other, [.sc (.any)], 8, false⟩,
  some ⟨.other, [.sc (.any)], 8, false⟩,
  some ⟨.other, [.sc (.any)], 8, false⟩,
  some ⟨.slice 70, [.sl [.sc (.str), .sc (.str), .sl [.sc (.str)]]], 24, false⟩,
  some ⟨.struct [(0, 3), (1, 3), (2, 44)], [.sc (.int .i64), .sc (.int .i64), .sl [.sc (.str), .sc (.str), .sl [.sc (.str)]]], 40, false⟩,
  some ⟨.struct [(0, 3), (1, 3), (2, 44)], [.sc (.int .i64), .sc (.int .i64), .sl [.sc (.str), .sc (.str), .sl [.sc (.str)]]], 40, false⟩,
  some ⟨.other, [.sc (.any)], 8, false⟩,
  some ⟨.struct [(0, 9), (1, 9)], [.sc (.str), .sc (.str)], 32, true⟩,
  some ⟨.struct [(0, 9), (1, 9)], [.sc (.str), .sc (.str)], 32, true⟩,
  some ⟨.other, [.sc (.any)], 8, false⟩,
  some ⟨.other, [.sc (.any)], 8, false⟩,
  some ⟨.other, [.sc (.any)], 8, false⟩,
  some ⟨.other, [.sc (.any)], 8, false⟩,
  some ⟨.other, [.sc (.any)], 8, false⟩,
  some ⟨.other, [.sc (.any)], 8, false⟩,
  some ⟨.other, [.sc (.any)], 8, false⟩,
  some ⟨.other, [.sc (.any)], 8, false⟩,
  some ⟨.other, [.sc (.any)], 8, false⟩,
  some ⟨.other, [.sc (.any)], 8, false⟩,
  some ⟨.slice 107, [.sl [.sc (.str), .sc (.str), .sl [.sc (.str)]]], 24, false⟩,
  some ⟨.struct [(0, 3), (1, 3), (2, 60)], [.sc (.int .i64), .sc (.int .i64), .sl [.sc (.str), .sc (.str), .sl [.sc (.str)]]], 40, false⟩,
  some ⟨.struct [(0, 3), (1, 3), (2, 60)], [.sc (.int .i64), .sc (.int .i64), .sl [.sc (.str), .sc (.str), .sl [.sc (.str)]]], 40, false⟩,
  some ⟨.other, [.sc (.any)], 8, false⟩,
  some ⟨.slice 5, [.sl [.sc (.int .u8)]], 24, false⟩,
  some ⟨.other, [.sc (.any)], 8, false⟩,
  some ⟨.other, [.sc (.any)], 8, false⟩,
  some ⟨.other, [.sc (.any)], 8, false⟩,
  some ⟨.other, [.sc (.any)], 8, false⟩,
  some ⟨.struct [(0, 49), (2, 22)], [.sc (.str), .sc (.str), .sl [.sc (.str)]], 56, false⟩,
  some ⟨.struct [(0, 49), (2, 22)], [.sc (.str), .sc (.str), .sl [.sc (.str)]], 56, false⟩,
  some ⟨.other, [.sc (.any)], 8, false⟩,
  some ⟨.other, [.sc (.any)], 8, false⟩,
  some ⟨.other, [.sc (.any)], 8, false⟩,
  some ⟨.other, [.sc (.any)], 8, false⟩,
  some ⟨.other, [.sc (.any)], 8, false⟩,
  some ⟨.other, [.sc (.any)], 8, false⟩,
  some ⟨.other, [.sc (.any)], 8, false⟩,
  some ⟨.other, [.sc (.any)], 8, false⟩,
  some ⟨.other, [.sc (.any)], 8, false⟩,
  some ⟨.other, [.sc (.any)], 8, false⟩,
  some ⟨.other, [.sc (.any)], 8, false⟩,
  some ⟨.other, [.sc (.any)], 8, false⟩,
  some ⟨.other, [.sc (.any)], 8, false⟩,
  some ⟨.slice 3, [.sl [.sc (.int .i64)]], 24, false⟩,
  some ⟨.other, [.sc (.any)], 8, false⟩,
  some ⟨.other, [.sc (.any)], 8, false⟩,
  some ⟨.sc (.int .u64), [.sc (.int .u64)], 8, false⟩,
  some ⟨.other, [.sc (.any)], 8, false⟩,
  some ⟨.other, [.sc (.any)], 8, false⟩,
  some ⟨.other, [.sc (.any)], 8, false⟩,
  some ⟨.other, [.sc (.any)], 8, false⟩,
  some ⟨.sc (.int .u32), [.sc (.int .u32)], 4, false⟩,
  some ⟨.array 8 92, [.sc (.int .u32), .sc (.int .u32), .sc (.int .u32), .sc (.int .u32), .sc (.int .u32), .sc (.int .u32), .sc (.int .u32), .sc (.int .u32)], 32, false⟩,
  some ⟨.ptr 118, [.sc (.any)], 8, false⟩,
  some ⟨.other, [.sc (.any)], 8, false⟩,
  some ⟨.other, [.sc (.any)], 8, false⟩,
  some ⟨.other, [.sc (.any)], 8, false⟩,
  some ⟨.other, [.sc (.any)], 8, false⟩,
  some ⟨.other, [.sc (.any)], 8, false⟩,
  some ⟨.ptr 93, [.sc (.any)], 8, false⟩,
  some ⟨.other, [.sc (.any)], 8, false⟩,
  some ⟨.other, [.sc (.any)], 8, false⟩,
  some ⟨.other, [.sc (.any)], 8, false⟩,
  some ⟨.other, [.sc (.any)], 8, false⟩,
  some ⟨.struct [(0, 9), (1, 9)], [.sc (.str), .sc (.str)], 32, true⟩,
  some ⟨.struct [(0, 105), (2, 22)], [.sc (.str), .sc (.str), .sl [.sc (.str)]], 56, false⟩,
  some ⟨.struct [(0, 105), (2, 22)], [.sc (.str), .sc (.str), .sl [.sc (.str)]], 56, false⟩,
  some ⟨.other, [.sc (.any)], 8, false⟩,
  some ⟨.other, [.sc (.any)], 8, false⟩,
  some ⟨.other, [.sc (.any)], 8, false⟩,
  some ⟨.other, [.sc (.any)], 8, false⟩,
  some ⟨.other, [.sc (.any)], 8, false⟩,
  some ⟨.other, [.sc (.any)], 8, false⟩,
  none,
  some ⟨.other, [.sc (.any)], 8, false⟩,
  some ⟨.other, [.sc (.any)], 8, false⟩,
  some ⟨.other, [.sc (.any)], 8, false⟩,
  some ⟨.array 64 92, [.sc (.int .u32), .sc (.int .u32), .sc (.int .u32), .sc (.int .u32), .sc (.int .u32), .sc (.int .u32), .sc (.int .u32), .sc (.int .u32), .sc (.int .u32), .sc (.int .u32), .sc (.int .u32), .sc (.int .u32), .sc (.int .u32), .sc (.int .u32), .sc (.int .u32), .sc (.int .u32), .sc (.int .u32), .sc (.int .u32), .sc (.int .u32), .sc (.int .u32), .sc (.int .u32), .sc (.int .u32), .sc (.int .u32), .sc (.int .u32), .sc (.int .u32), .sc (.int .u32), .sc (.int .u32), .sc (.int .u32), .sc (.int .u32), .sc (.int .u32), .sc (.int .u32), .sc (.int .u32), .sc (.int .u32), .sc (.int .u32), .sc (.int .u32), .sc (.int .u32), .sc (.int .u32), .sc (.int .u32), .sc (.int .u32), .sc (.int .u32), .sc (.int .u32), .sc (.int .u32), .sc (.int .u32), .sc (.int .u32), .sc (.int .u32), .sc (.int .u32), .sc (.int .u32), .sc (.int .u32), .sc (.int .u32), .sc (.int .u32), .sc (.int .u32), .sc (.int .u32), .sc (.int .u32), .sc (.int .u32), .sc (.int .u32), .sc (.int .u32), .sc (.int .u32), .sc (.int .u32), .sc (.int .u32), .sc (.int .u32), .sc (.int .u32), .sc (.int .u32), .sc (.int .u32), .sc (.int .u32)], 256, false⟩,
  some ⟨.other, [.sc (.any)], 8, false⟩,
  some ⟨.other, [.sc (.any)], 8, false⟩,
  some ⟨.other, [.sc (.any)], 8, false⟩,
  some ⟨.other, [.sc (.any)], 8, false⟩,
  some ⟨.slice 64, [.sl [.sl [.sc (.int .u8)]]], 24, false⟩,
  none,
  some ⟨.other, [.sc (.any)], 8, false⟩,
  some ⟨.other, [.sc (.any)], 8, false⟩,
  some ⟨.other, [.sc (.any)], 8, false⟩,
  some ⟨.other, [.sc (.any)], 8, false⟩,
  some ⟨.other, [.sc (.any)], 8, false⟩,
  some ⟨.other, [.sc (.any)], 8, false⟩,
  some ⟨.other, [.sc (.any)], 8, false⟩,
  some ⟨.other, [.sc (.any)], 8, false⟩,
  some ⟨.other, [.sc (.any)], 8, false⟩,
  some ⟨.other, [.sc (.any)], 8, false⟩,
  some ⟨.struct [(0, 17), (1, 17), (2, 17), (3, 9)], [.sc (.any), .sc (.any), .sc (.any), .sc (.str)], 40, false⟩,
  some ⟨.struct [(0, 17), (1, 17), (2, 17), (3, 9)], [.sc (.any), .sc (.any), .sc (.any), .sc (.str)], 40, false⟩,
  some ⟨.array 0 16, [], 0, false⟩,
  none,
  none,
  some ⟨.other, [.sc (.any)], 8, false⟩,
  some ⟨.sc (.int .u8), [.sc (.int .u8)], 1, false⟩,
  some ⟨.sc (.int .u8), [.sc (.int .u8)], 1, false⟩,
  some ⟨.other, [.sc (.any)], 8, false⟩,
  some ⟨.ptr 5, [.sc (.any)], 8, false⟩,
  some ⟨.sc (.int .i32), [.sc (.int .i32)], 4, false⟩,
  some ⟨.sc (.int .i32), [.sc (.int .i32)], 4, false⟩,
  some ⟨.struct [(0, 12), (1, 12), (2, 92), (3, 141), (4, 5), (5, 5), (6, 142), (7, 143), (8, 144), (9, 145), (10, 146)], [.sc (.int .u64), .sc (.int .u64), .sc (.int .u32), .sc (.int .u8), .sc (.int .u8), .sc (.int .u8), .sc (.int .u8), .sc (.any), .sc (.any), .sc (.int .i32), .sc (.int .i32)], 48, false⟩,
  some ⟨.struct [(0, 12), (1, 12), (2, 92), (3, 141), (4, 5), (5, 5), (6, 142), (7, 143), (8, 144), (9, 145), (10, 146)], [.sc (.int .u64), .sc (.int .u64), .sc (.int .u32), .sc (.int .u8), .sc (.int .u8), .sc (.int .u8), .sc (.int .u8), .sc (.any), .sc (.any), .sc (.int .i32), .sc (.int .i32)], 48, false⟩,
  some ⟨.other, [.sc (.any)], 8, false⟩]
noncomputable def fnTab : List (Nat × Func) := [
  (2, Tryz.f2),
  (3, Tryz.f3),
  (4, Tryz.f4),
  (5, Tryz.f5),
  (6, Tryz.f6),
  (7, Tryz.f7),
  (8, Tryz.f8),
  (9, Tryz.f9),
  (10, Tryz.f10),
  (11, Tryz.f11),
  (12, Tryz.f12),
  (13, Tryz.f13),
  (14, Tryz.f14),
  (15, Tryz.f15),
  (16, Tryz.f16),
  (17, Tryz.f17),
  (18, Tryz.f18),
  (19, Tryz.f19),
  (20, Tryz.f20),
  (21, Tryz.f21),
  (22, Tryz.f22),
  (23, Tryz.f23),
  (24, Tryz.f24),
  (25, Tryz.f25),
  (26, Tryz.f26),
  (27, Tryz.f27),
  (28, Tryz.f28),
  (29, Tryz.f29),
  (30, Tryz.f30),
  (31, Tryz.f31),
  (32, Tryz.f32),
  (33, Tryz.f33),
  (34, Tryz.f34),
  (35, Tryz.f35),
  (36, Tryz.f36),
  (37, Tryz.f37),
  (38, Tryz.f38),
  (39, Tryz.f39),
  (40, Tryz.f40),
  (41, Tryz.f41),
  (42, Tryz.f42),
  (43, Tryz.f43),
  (44, Tryz.f44),
  (45, Tryz.f45),
  (46, Tryz.f46),
  (47, Tryz.f47),
  (48, Tryz.f48),
  (49, Tryz.f49),
  (50, Tryz.f50),
  (51, Tryz.f51),
  (52, Tryz.f52),
  (53, Tryz.f53),
  (54, Tryz.f54),
  (55, Tryz.f55),
  (56, Tryz.f56),
  (57, Tryz.f57),
  (58, Tryz.f58),
  (59, Tryz.f59),
  (60, Tryz.f60),
  (61, Tryz.f61),
  (62, Tryz.f62),
  (63, Tryz.f63),
  (64, Tryz.f64),
  (65, Tryz.f65),
  (66, Tryz.f66),
  (67, Tryz.f67),
  (68, Tryz.f68),
  (69, Tryz.f69),
  (70, Tryz.f70),
  (71, Tryz.f71),
  (72, Tryz.f72),
  (73, Tryz.f73),
  (74, Tryz.f74),
  (75, Tryz.f75),
  (76, Tryz.f76),
  (77, Tryz.f77),
  (78, Tryz.f78),
  (79, Tryz.f79),
  (80, Tryz.f80),
  (81, Tryz.f81),
  (82, Tryz.f82),
  (83, Tryz.f83),
  (84, Tryz.f84),
  (85, Tryz.f85),
  (86, Tryz.f86),
  (87, Tryz.f87),
  (88, Tryz.f88),
  (89, Tryz.f89),
  (90, Tryz.f90),
  (91, Tryz.f91),
  (92, Tryz.f92),
  (93, Tryz.f93),
  (94, Tryz.f94),
  (95, Tryz.f95),
  (96, Tryz.f96),
  (97, Tryz.f97),
  (98, Tryz.f98),
  (99, Tryz.f99),
  (100, Tryz.f100),
  (101, Tryz.f101),
  (103, Tryz.f103),
  (104, Tryz.f104),
  (105, Tryz.f105),
  (106, Tryz.f106),
  (107, Tryz.f107),
  (108, Tryz.f108),
  (109, Tryz.f109),
  (110, Tryz.f110),
  (111, Tryz.f111),
  (112, Tryz.f112),
  (113, Tryz.f113),
  (114, Tryz.f114),
  (115, Tryz.f115)]
theorem fns_ok : FnsOk Tryz.prog fnTab := by
  unfold fnTab
  exact ⟨⟨Tryz.func2, by kernel_rfl, by kernel_rfl⟩, ⟨Tryz.func3, by kernel_rfl, by kernel_rfl⟩, ⟨Tryz.func4, by kernel_rfl, by kernel_rfl⟩, ⟨Tryz.func5, by kernel_rfl, by kernel_rfl⟩, ⟨Tryz.func6, by kernel_rfl, by kernel_rfl⟩, ⟨Tryz.func7, by kernel_rfl, by kernel_rfl⟩, ⟨Tryz.func8, by kernel_rfl, by kernel_rfl⟩, ⟨Tryz.func9, by kernel_rfl, by kernel_rfl⟩, ⟨Tryz.func10, by kernel_rfl, by kernel_rfl⟩, ⟨Tryz.func11, by kernel_rfl, by kernel_rfl⟩, ⟨Tryz.func12, by kernel_rfl, by kernel_rfl⟩, ⟨Tryz.func13, by kernel_rfl, by kernel_rfl⟩, ⟨Tryz.func14, by kernel_rfl, by kernel_rfl⟩, ⟨Tryz.func15, by kernel_rfl, by kernel_rfl⟩, ⟨Tryz.func16, by kernel_rfl, by kernel_rfl⟩, ⟨Tryz.func17, by kernel_rfl, by kernel_rfl⟩, ⟨Tryz.func18, by kernel_rfl, by kernel_rfl⟩, ⟨Tryz.func19, by kernel_rfl, by kernel_rfl⟩, ⟨Tryz.func20, by kernel_rfl, by kernel_rfl⟩, ⟨Tryz.func21, by kernel_rfl, by kernel_rfl⟩, ⟨Tryz.func22, by kernel_rfl, by kernel_rfl⟩, ⟨Tryz.func23, by kernel_rfl, by kernel_rfl⟩, ⟨Tryz.func24, by kernel_rfl, by kernel_rfl⟩, ⟨Tryz.func25, by kernel_rfl, by kernel_rfl⟩, ⟨Tryz.func26, by kernel_rfl, by kernel_rfl⟩, ⟨Tryz.func27, by kernel_rfl, by kernel_rfl⟩, ⟨Tryz.func28, by kernel_rfl, by kernel_rfl⟩, ⟨Tryz.func29, by kernel_rfl, by kernel_rfl⟩, ⟨Tryz.func30, by kernel_rfl, by kernel_rfl⟩, ⟨Tryz.func31, by kernel_rfl, by kernel_rfl⟩, ⟨Tryz.func32, by kernel_rfl, by kernel_rfl⟩, ⟨Tryz.func33, by kernel_rfl, by kernel_rfl⟩, ⟨Tryz.func34, by kernel_rfl, by kernel_rfl⟩, ⟨Tryz.func35, by kernel_rfl, by kernel_rfl⟩, ⟨Tryz.func36, by kernel_rfl, by kernel_rfl⟩, ⟨Tryz.func37, by kernel_rfl, by kernel_rfl⟩, ⟨Tryz.func38, by kernel_rfl, by kernel_rfl⟩, ⟨Tryz.func39, by kernel_rfl, by kernel_rfl⟩, ⟨Tryz.func40, by kernel_rfl, by kernel_rfl⟩, ⟨Tryz.func41, by kernel_rfl, by kernel_rfl⟩, ⟨Tryz.func42, by kernel_rfl, by kernel_rfl⟩, ⟨Tryz.func43, by kernel_rfl, by kernel_rfl⟩, ⟨Tryz.func44, by kernel_rfl, by kernel_rfl⟩, ⟨Tryz.func45, by kernel_rfl, by kernel_rfl⟩, ⟨Tryz.func46, by kernel_rfl, by kernel_rfl⟩, ⟨Tryz.func47, by kernel_rfl, by kernel_rfl⟩, ⟨Tryz.func48, by kernel_rfl, by kernel_rfl⟩, ⟨Tryz.func49, by kernel_rfl, by kernel_rfl⟩, ⟨Tryz.func50, by kernel_rfl, by kernel_rfl⟩, ⟨Tryz.func51, by kernel_rfl, by kernel_rfl⟩, ⟨Tryz.func52, by kernel_rfl, by kernel_rfl⟩, ⟨Tryz.func53, by kernel_rfl, by kernel_rfl⟩, ⟨Tryz.func54, by kernel_rfl, by kernel_rfl⟩, ⟨Tryz.func55, by kernel_rfl, by kernel_rfl⟩, ⟨Tryz.func56, by kernel_rfl, by kernel_rfl⟩, ⟨Tryz.func57, by kernel_rfl, by kernel_rfl⟩, ⟨Tryz.func58, by kernel_rfl, by kernel_rfl⟩, ⟨Tryz.func59, by kernel_rfl, by kernel_rfl⟩, ⟨Tryz.func60, by kernel_rfl, by kernel_rfl⟩, ⟨Tryz.func61, by kernel_rfl, by kernel_rfl⟩, ⟨Tryz.func62, by kernel_rfl, by kernel_rfl⟩, ⟨Tryz.func63, by kernel_rfl, by kernel_rfl⟩, ⟨Tryz.func64, by kernel_rfl, by kernel_rfl⟩, ⟨Tryz.func65, by kernel_rfl, by kernel_rfl⟩, ⟨Tryz.func66, by kernel_rfl, by kernel_rfl⟩, ⟨Tryz.func67, by kernel_rfl, by kernel_rfl⟩, ⟨Tryz.func68, by kernel_rfl, by kernel_rfl⟩, ⟨Tryz.func69, by kernel_rfl, by kernel_rfl⟩, ⟨Tryz.func70, by kernel_rfl, by kernel_rfl⟩, ⟨Tryz.func71, by kernel_rfl, by kernel_rfl⟩, ⟨Tryz.func72, by kernel_rfl, by kernel_rfl⟩, ⟨Tryz.func73, by kernel_rfl, by kernel_rfl⟩, ⟨Tryz.func74, by kernel_rfl, by kernel_rfl⟩, ⟨Tryz.func75, by kernel_rfl, by kernel_rfl⟩, ⟨Tryz.func76, by kernel_rfl, by kernel_rfl⟩, ⟨Tryz.func77, by kernel_rfl, by kernel_rfl⟩, ⟨Tryz.func78, by kernel_rfl, by kernel_rfl⟩, ⟨Tryz.func79, by kernel_rfl, by kernel_rfl⟩, ⟨Tryz.func80, by kernel_rfl, by kernel_rfl⟩, ⟨Tryz.func81, by kernel_rfl, by kernel_rfl⟩, ⟨Tryz.func82, by kernel_rfl, by kernel_rfl⟩, ⟨Tryz.func83, by kernel_rfl, by kernel_rfl⟩, ⟨Tryz.func84, by kernel_rfl, by kernel_rfl⟩, ⟨Tryz.func85, by kernel_rfl, by kernel_rfl⟩, ⟨Tryz.func86, by kernel_rfl, by kernel_rfl⟩, ⟨Tryz.func87, by kernel_rfl, by kernel_rfl⟩, ⟨Tryz.func88, by kernel_rfl, by kernel_rfl⟩, ⟨Tryz.func89, by kernel_rfl, by kernel_rfl⟩, ⟨Tryz.func90, by kernel_rfl, by kernel_rfl⟩, ⟨Tryz.func91, by kernel_rfl, by kernel_rfl⟩, ⟨Tryz.func92, by kernel_rfl, by kernel_rfl⟩, ⟨Tryz.func93, by kernel_rfl, by kernel_rfl⟩, ⟨Tryz.func94, by kernel_rfl, by kernel_rfl⟩, ⟨Tryz.func95, by kernel_rfl, by kernel_rfl⟩, ⟨Tryz.func96, by kernel_rfl, by kernel_rfl⟩, ⟨Tryz.func97, by kernel_rfl, by kernel_rfl⟩, ⟨Tryz.func98, by kernel_rfl, by kernel_rfl⟩, ⟨Tryz.func99, by kernel_rfl, by kernel_rfl⟩, ⟨Tryz.func100, by kernel_rfl, by kernel_rfl⟩, ⟨Tryz.func101, by kernel_rfl, by kernel_rfl⟩, ⟨Tryz.func103, by kernel_rfl, by kernel_rfl⟩, ⟨Tryz.func104, by kernel_rfl, by kernel_rfl⟩, ⟨Tryz.func105, by kernel_rfl, by kernel_rfl⟩, ⟨Tryz.func106, by kernel_rfl, by kernel_rfl⟩, ⟨Tryz.func107, by kernel_rfl, by kernel_rfl⟩, ⟨Tryz.func108, by kernel_rfl, by kernel_rfl⟩, ⟨Tryz.func109, by kernel_rfl, by kernel_rfl⟩, ⟨Tryz.func110, by kernel_rfl, by kernel_rfl⟩, ⟨Tryz.func111, by kernel_rfl, by kernel_rfl⟩, ⟨Tryz.func112, by kernel_rfl, by kernel_rfl⟩, ⟨Tryz.func113, by kernel_rfl, by kernel_rfl⟩, ⟨Tryz.func114, by kernel_rfl, by kernel_rfl⟩, ⟨Tryz.func115, by kernel_rfl, by kernel_rfl⟩, trivial⟩
def ovTab : List (Nat × Sig) := [(10, ⟨[[.R, .R, .O [], .O []], [.R]]⟩), (11, ⟨[[.O []], [.R]]⟩), (30, ⟨[[.O []], [.R]]⟩), (31, ⟨[[.O []], [.R]]⟩), (43, ⟨[[.O []], [.R]]⟩), (44, ⟨[[.O []], [.R]]⟩), (45, ⟨[[.O []], [.R]]⟩), (52, ⟨[[.O []], [.R], [.R]]⟩), (54, ⟨[[.O []], [.R]]⟩), (78, ⟨[[.O []], [.R], [.O []]]⟩)]
def fzTab : List (Nat × Nat) := []
def msTab : List (Nat × Nat × List M) := [(21, 2, [.F, .F, .O [.F, .F, .O [.F]]]), (21, 7, [.F, .F, .O [.F, .F, .O [.F]]]), (66, 2, [.F, .F, .O [.F]]), (66, 7, [.F, .F, .O [.F]]), (99, 34, [.F]), (112, 20, [.F]), (112, 69, [.F]), (112, 78, [.F])]
def castTab : List (Nat × Nat × List M) := []
def boxTab : List (Nat × Nat × List M) := [(3, 12, [.F, .F, .O [.F], .O [.F, .F, .F]]), (6, 2, [.F, .F, .O [.F], .O [.F, .F, .O [.F, .F, .O [.F]]]]), (6, 3, [.F, .F, .O [.F], .O [.F, .F, .O [.F, .F, .O [.F]]]]), (7, 13, [.F, .F, .O [.F, .F, .F]]), (24, 12, [.F, .F, .O [.F]]), (37, 7, [.F, .F, .O [.F]]), (41, 2, [.F, .F, .O [.F, .F, .O [.F]]]), (41, 3, [.F, .F, .O [.F, .F, .O [.F]]]), (47, 6, [.F, .F, .O [.F]]), (89, 2, [.F, .F, .O [.F]]), (89, 3, [.F, .F, .O [.F]])]
def cutTab : List (Nat × Nat × Nat) := []
def rgTab : List (Nat × Nat × List (Nat × Nat)) := []
def retTab : List (Nat) := []
def prims0 : FuncId → Option (List Arg → R3 Ret) := fun f => cond (Nat.beq f 91) (some (primClone [.sc (.int .u8)])) none
def prims : FuncId → Option (List Arg → R3 Ret) := fun f => cond (Nat.beq f 42) (some primDigest) <| cond (Nat.beq f 51) (some (primClone [.sc (.str), .sc (.str)])) <| cond (Nat.beq f 78) (some (primInsert [.sc (.str), .sc (.str)])) <| none
def look3 {α : Type} (d : α) (f x : Nat) : List (Nat × Nat × α) → α
  | [] => d
  | (a, b, c) :: r => cond (Nat.beq f a && Nat.beq x b) c (look3 d f x r)
def CX : Ctx where
  ty := tabFn tyTab
  fn := fun f => lookF f fnTab
  sig := sigTab tyTab fnTab ovTab
  own := fun f d => !(fzTab.any fun x => Nat.beq x.1 f && Nat.beq x.2 d)
  ms := fun f d => look3 [] f d msTab
  cut := fun f d => look3 0 f d cutTab
  cast := fun f d => look3 [] f d castTab
  box := fun f d => look3 [] f d boxTab
  rg := fun f d => look3 [] f d rgTab
  ret := fun f => retTab.any (Nat.beq f)
end
end Go.Proofs.YtdhldbjjdlnbmaaGreat

namespace Go.Proofs.YtdhldbjjdlnbmaaGreat
open Go Go.E Go.Proofs
def slCb : Nat → T → (T → An) → An
 | 0, _, _ => .bad
 | m + 1, x0, k0 => cond (decide (x0.rows.length * 1 ≤ maxRow)) (k0 (T.l x0.rows)) .bad
noncomputable def slCb_a : List Arg := [.one (.dz [.sc (.int .u8)] [])]
def slCb_w (m : Nat) (vs : List T) (k : Ret → An) : An := slCb m (vs.headD dflt) (fun z0 => k ⟨[.one (.own [7000000] [.sc (.int .u8)] [.F] z0.rows)], [[none]], []⟩)
theorem slCb_eq (m : Nat) : ∀ vs k, callK CX prims0 m 91 (fArgs slCb_a vs) k = slCb_w m vs k := by
  intro vs k
  cases m with
  | zero => rfl
  | succ m =>
    refine Eq.trans (b := ((primClone [.sc (.int .u8)]) (fArgs slCb_a vs)).bind k) (by kernel_rfl) ?_
    refine Eq.trans (b := (cond (decide ((vs.headD dflt).rows.length * 1 ≤ maxRow)) (R3.ok ⟨[.one (.own [7000000] [.sc (.int .u8)] [.F] (vs.headD dflt).rows)], [[none]], []⟩) .bad).bind k) (by kernel_rfl) ?_
    rw [cond_bind]; rfl
noncomputable def M_Padded_L1_0 (m : Nat) : Nat → T → T → T → (T → An) → An
 | 0, _, _, _, _ => .bad
 | n + 1, x0, x1, x2, k0 =>
  cond (decide (x1.int ≥ 0))
  (cond (decide (0 ≤ (IntKind.u64.wrap (IntKind.i64.wrap (8 * x1.int)))))
  (cond (decide ((x2.rows.length + 1) * 1 ≤ maxRow))
  (M_Padded_L1_0 m n x0 (T.i (IntKind.i64.wrap (x1.int - 1))) (T.l (x2.rows ++ [[(T.i (IntKind.u8.wrap (Int.fdiv x0.int (2 ^ (min (Int.toNat (IntKind.u64.wrap (IntKind.i64.wrap (8 * x1.int)))) IntKind.i64.bits)))))]])) k0)
  (.bad))
  (.bad))
  (k0 (T.l x2.rows))
noncomputable def M_Padded_s1_0 : Pack := ⟨[(3, .one ⟨.al [1000000, 0] 0, .sl [.sc (.int .u8)], .l []⟩), (4, .one ⟨.sc, .sc (.int .i64), .l []⟩), (5, .one ⟨.sc, .sc (.int .i64), .l []⟩)], [([1000000, 0], .row [.sc (.int .u8)] [.F] [])]⟩
noncomputable def M_Padded_e1_0 : Pack := ⟨[(3, .one ⟨.al [1000000, 0] 0, .sl [.sc (.int .u8)], .l []⟩)], [([1000000, 0], .row [.sc (.int .u8)] [.F] [])]⟩
noncomputable def M_Padded_L1_0w (m n : Nat) (vs : List T) (k : Ctl → Pack → An) : An := M_Padded_L1_0 m n (vs.headD dflt) (vs.tail.headD dflt) (vs.tail.tail.headD dflt) (fun z0 => k (.exit 2) (fPack M_Padded_e1_0 [z0]))
noncomputable def M_Padded_L0_0 (m : Nat) : Nat → T → T → (T → T → An) → An
 | 0, _, _, _ => .bad
 | n + 1, x0, x1, k0 =>
  cond ((Int.tmod (IntKind.i64.wrap ((x1.rows.length : Int) + 8)) 64) != 0)
  (cond (decide ((x1.rows.length + 1) * 1 ≤ maxRow))
  (M_Padded_L0_0 m n x0 (T.l (x1.rows ++ [[(T.i 0)]])) k0)
  (.bad))
  (k0 x0 (T.l x1.rows))
noncomputable def M_Padded_s0_0 : Pack := ⟨[(0, .one ⟨.sn [], .sl [.sc (.int .u8)], .l []⟩), (3, .one ⟨.al [1000000, 0] 0, .sl [.sc (.int .u8)], .l []⟩)], [([1000000, 0], .row [.sc (.int .u8)] [.F] [])]⟩
noncomputable def M_Padded_e0_0 : Pack := ⟨[(0, .one ⟨.sn [], .sl [.sc (.int .u8)], .l []⟩), (3, .one ⟨.al [1000000, 0] 0, .sl [.sc (.int .u8)], .l []⟩)], [([1000000, 0], .row [.sc (.int .u8)] [.F] [])]⟩
noncomputable def M_Padded_L0_0w (m n : Nat) (vs : List T) (k : Ctl → Pack → An) : An := M_Padded_L0_0 m n (vs.headD dflt) (vs.tail.headD dflt) (fun z0 z1 => k (.exit 0) (fPack M_Padded_e0_0 [z0, z1]))
noncomputable def M_Padded : Nat → T → (T → An) → An
 | 0, _, _ => .bad
 | m + 1, x0, k0 =>
  slCb m (T.l x0.rows)
  (fun y0 => cond (decide ((y0.rows.length + 1) * 1 ≤ maxRow))
  (M_Padded_L0_0 m m (T.l x0.rows) (T.l (y0.rows ++ [[(T.i 128)]]))
  (fun y1 y2 => M_Padded_L1_0 m m (T.i (IntKind.i64.wrap (8 * (y1.rows.length : Int)))) (T.i 7) (T.l y2.rows)
  (fun y3 => k0 (T.l y3.rows))))
  (.bad))
noncomputable def M_Padded_a : List Arg := [.one (.fz [.sc (.int .u8)] [])]
noncomputable def M_Padded_w (m : Nat) (vs : List T) (k : Ret → An) : An := M_Padded m (vs.headD dflt) (fun z0 => k ⟨[.one (.own [1000000, 0] [.sc (.int .u8)] [.F] z0.rows)], [[none]], [none]⟩)
theorem M_Padded_cf (m : Nat) : callK CX prims0 m = (patC 91 slCb_a (slCb_w m) (callK CX prims0 m)) := by
  rw [← patC_eq (fun vs k => slCb_eq m vs k)]
noncomputable def M_Padded_c : Code := (Tryz.f69.body).getD .skip
noncomputable def M_Padded_fi : Fi := ⟨69, 1, 35, 4⟩
theorem M_Padded_lf (m : Nat) : ∀ n, (∀ vs k, loopK CX (callK CX prims0 m) M_Padded_fi M_Padded_c n [0, 0, 1, 1] (fPack M_Padded_s0_0 vs) k = M_Padded_L0_0w m n vs k) ∧ (∀ vs k, loopK CX (callK CX prims0 m) M_Padded_fi M_Padded_c n [0, 1, 0, 1, 1, 1, 1] (fPack M_Padded_s1_0 vs) k = M_Padded_L1_0w m n vs k) ∧ ((loopK CX (callK CX prims0 m) M_Padded_fi M_Padded_c n) = (patL [0, 0, 1, 1] M_Padded_s0_0 (M_Padded_L0_0w m n) (patL [0, 1, 0, 1, 1, 1, 1] M_Padded_s1_0 (M_Padded_L1_0w m n) (loopK CX (callK CX prims0 m) M_Padded_fi M_Padded_c n)))) :=
 lf2 (fun n h0 h1 => by rw [← patL_eq h1, ← patL_eq h0]) (fun vs k => rfl) (fun vs k => rfl) (fun n hn vs k => (stepL_congr (M_Padded_cf m) hn [0, 0, 1, 1] _ _).trans (by kernel_rfl)) fun n hn vs k => (stepL_congr (M_Padded_cf m) hn [0, 1, 0, 1, 1, 1, 1] _ _).trans (by kernel_rfl)
theorem M_Padded_eq (m : Nat) : ∀ vs k, callK CX prims0 m 69 (fArgs M_Padded_a vs) k = M_Padded_w m vs k := by
  cases m with
  | zero => exact fun vs k => rfl
  | succ m => exact fun vs k => Eq.trans (b := bodyK CX (callK CX prims0 m) (loopK CX (callK CX prims0 m) M_Padded_fi M_Padded_c m) 69 Tryz.f69 M_Padded_c (fArgs M_Padded_a vs) k) (by kernel_rfl) ((bodyK_congr (M_Padded_cf m) ((M_Padded_lf m m).2.2) 69 Tryz.f69 M_Padded_c (fArgs M_Padded_a vs) k).trans (by kernel_rfl))
end Go.Proofs.YtdhldbjjdlnbmaaGreat

