/- A part of the proof: texts EOps11, EOps12, EOps13, EOps14, EOps15, EOps16, EOps17, EOps18, EOps19, EOps20, ECall1, ECall2, ECall3, ECall4, ECall5: see the last part's opening words. -/
import Derived.Test.YtkocbeamfmfgiaaE1
import Derived.Room.AppendAny
set_option linter.unusedVariables false
set_option linter.unusedSimpArgs false
set_option linter.unnecessarySimpa false
namespace Go.E
open Go

theorem setRange (off : Nat) : ∀ (vs : List Value) (k : Nat) (cs : Array Value), off + k + vs.length ≤ cs.size →
    ((vs.zipIdx k).foldl (fun cs (x : Value × Nat) => cs.setIfInBounds (off + x.2) x.1) cs).toList = cs.toList.take (off + k) ++ vs ++ cs.toList.drop (off + k + vs.length)
  | [], k, cs, h => by simp
  | v :: vs, k, cs, h => by
    simp only [List.length_cons] at h
    rw [List.zipIdx_cons, List.foldl_cons, setRange off vs (k + 1) _ (by simp; omega)]
    have hlt : off + k < cs.toList.length := by rw [Array.length_toList]; omega
    simp only [Array.toList_setIfInBounds, List.length_cons]
    rw [show off + (k + 1) = off + k + 1 from by omega]
    rw [List.take_add_one, List.take_set_of_le (by omega), List.getElem?_set_self hlt, List.drop_set_of_lt (by omega), show off + k + (vs.length + 1) = off + k + 1 + vs.length from by omega]
    simp
theorem fill_cons {place : Nat → Option (Nat × Nat)} {cells : Array Value} {i off : Nat} {v : Value} {rest : List (Nat × Value)} (hp : place i = some (off, v.cells.size)) (h : off + v.cells.size ≤ cells.size) :
    Instr.fill place cells ((i, v) :: rest) = Instr.fill place (cells.toList.take off ++ v.cells.toList ++ cells.toList.drop (off + v.cells.size)).toArray rest := by
  have h1 : ¬ ((v.cells.size ≠ v.cells.size || decide (off + v.cells.size > cells.size)) = true) := by simp; omega
  simp only [Instr.fill, hp]
  rw [if_neg (by simpa using h1)]
  congr 1
  apply Array.toList_inj.1
  rw [← Array.foldl_toList, Array.toList_zipIdx]
  have := setRange off v.cells.toList 0 cells (by simpa using h)
  simpa using this

section
variable {Γ : Ctx} {P : Program} {cf : FuncId → List Arg → R3 Ret}
variable {n : Fr} {σ : S} {g : Gh} {I : Foot} {a : Act} {w w' : World}
variable {o : Oper} {f : FuncId} {tr : Tr} {Q : S → Tr → Prop} {K : Act → World → Prop} {Qm : Exit → Act → World → Prop}

theorem LfsR.app {κ : Key → KE} : ∀ {ls ls' : List Leaf} {vs vs' : List Value}, LfsR κ g w I ls vs → LfsR κ g w I ls' vs' → LfsR κ g w I (ls ++ ls') (vs ++ vs')
  | [], ls', [], vs', _, h => h
  | _ :: _, ls', _ :: _, vs', h, h' => ⟨h.1, LfsR.app h.2 h'⟩
  | [], _, _ :: _, _, h, _ => h.elim
  | _ :: _, _, [], _, h, _ => h.elim
def PartsR (κ : Key → KE) (g : Gh) (w : World) (I : Foot) : List (Nat × List Leaf) → List (Nat × Value) → Prop
  | [], [] => True
  | p :: ps, q :: qs => p.1 = q.1 ∧ LfsR κ g w I p.2 q.2.cells.toList ∧ PartsR κ g w I ps qs
  | _, _ => False
theorem partLeaves_wp (hR : R n σ g I a w) : ∀ {ps : List (Nat × Operand)} {k : List (Nat × List Leaf) → Prog} {tr : Tr}, (partLeaves ps k).wp cf σ tr Q →
    ∃ r tr', PartsR σ.k g w I r (ps.map fun p => (p.1, a.eval p.2)) ∧ (k r).wp cf σ tr' Q
  | [], k, tr, h => ⟨[], tr, trivial, h⟩
  | (i, x) :: ps, k, tr, h => by
    obtain ⟨e, t1, he, h⟩ := rd_wp hR h
    obtain ⟨ls, hls, h⟩ := ofOpt_wp h
    obtain ⟨r, t2, hr, h⟩ := partLeaves_wp hR (ps := ps) h
    exact ⟨(i, ls) :: r, t2, ⟨rfl, entCells he hls, hr⟩, h⟩
theorem fillLeaves_ok (hΓ : CtxOk Γ P) {κ : Key → KE} {fs : List (Nat × TypeId)} {places : Array (Nat × Nat)}
    (hfs : ∀ (i off : Nat) (ft : TypeId), fs[i]? = some (off, ft) → ∀ tf, Γ.ty ft = some tf → places[i]? = some (off, tf.lts.length)) :
    ∀ (r : List (Nat × List Leaf)) (vs : List (Nat × Value)) (acc out : List Leaf) (cells : Array Value), PartsR κ g w I r vs → LfsR κ g w I acc cells.toList → fillLeaves Γ fs r acc = some out →
      ∃ cells', Instr.fill (places[·]?) cells vs = some cells' ∧ LfsR κ g w I out cells'.toList
  | [], [], acc, out, cells, _, hl, h => by cases h; exact ⟨cells, rfl, hl⟩
  | [], _ :: _, _, _, _, h, _, _ => h.elim
  | _ :: _, [], _, _, _, h, _, _ => h.elim
  | (i, ls) :: r, (i', v) :: vs, acc, out, cells, hp, hl, h => by
    obtain ⟨rfl, hv, hp⟩ := hp
    unfold fillLeaves at h
    split at h
    · rename_i off ft hf
      split at h
      · rename_i tf htf
        cases hb : (Nat.beq ls.length tf.lts.length && Nat.ble (off + ls.length) acc.length) with
        | false => rw [hb] at h; cases h
        | true =>
          rw [hb] at h
          simp only [Bool.and_eq_true] at hb
          have h1 : ls.length = tf.lts.length := Nat.eq_of_beq_eq_true hb.1
          have h2 : off + ls.length ≤ acc.length := Nat.le_of_ble_eq_true hb.2
          have hlen := hl.len
          have hvl := hv.len
          simp only [Array.length_toList] at hlen hvl
          have hpl := hfs i off ft hf tf htf
          rw [fill_cons (off := off) (by rw [hpl, hvl, h1]) (by omega)]
          refine fillLeaves_ok hΓ hfs r vs _ out _ hp ?_ h
          rw [List.toList_toArray]
          rw [hvl]
          exact ((hl.take off).app hv).app (hl.drop _)
      · cases h
    · cases h
theorem run_places : ∀ (l : List Field), (∀ f ∈ l, ∃ i, P.info? f.type = some i) →
    (l.mapM fun f => do pure (f.offset, ← sizeOf f.type) : Sem (List (Nat × Nat))).run P w = .ok (l.map fun f => (f.offset, P.cellsOf f.type)) w
  | [], _ => by simp
  | f :: l, h => by
    obtain ⟨i, hi⟩ := h f (by simp)
    have h1 : (sizeOf f.type).run P w = .ok (P.cellsOf f.type) w := by simp [sizeOf, typeInfo, hi, Program.cellsOf, go_sem]
    rw [List.mapM_cons]
    simp only [Sem.run_bind, h1, Result.andThen_ok, Sem.run_pure]
    rw [run_places l fun f hf => h f (by simp [hf])]
    simp
theorem op_build (hΓ : CtxOk Γ P) (hd : dstOk n.np n.nt o = true) (hR : R n σ g I a w) (hK : Post P n I w Q K) {t : TypeId} {ps : Array (Nat × Operand)} (hop : o.op = .build t ps)
    (h : (opStep Γ f o).wp cf σ tr Q) : Goal P o a w K Qm := by
  simp only [opStep, hop] at h
  obtain ⟨ti, -, hty, h⟩ := tyOf_wp hΓ h
  split at h
  · rename_i fs hk
    obtain ⟨r, t1, hr, h⟩ := partLeaves_wp hR h
    obtain ⟨out, hout, h9⟩ := ofOpt_wp h
    obtain ⟨z, hz, hzs⟩ := run_zeroValue (w := w) hty
    obtain ⟨d, hu, hkd⟩ := hty.und
    rw [hk] at hkd
    obtain ⟨fields, rfl, rfl, hfi⟩ := hkd
    have hpl : (fields.mapM fun f => do pure (f.offset, ← sizeOf f.type) : Sem (Array (Nat × Nat))).run P w = .ok (fields.map fun f => (f.offset, P.cellsOf f.type)) w := by
      rw [Array.mapM_eq_mapM_toList]
      simp only [Sem.run_map]
      rw [run_places fields.toList fun f hf => ⟨_, (hfi f hf).choose_spec.1⟩]
      simp only [Result.andThen_ok]
      congr 1
      apply Array.toList_inj.1; simp
    obtain ⟨cells', hfill, hl⟩ := fillLeaves_ok (g := g) (w := w) (I := I) (κ := σ.k) hΓ (places := fields.map fun f => (f.offset, P.cellsOf f.type)) (fs := fields.toList.map fun f => (f.offset, f.type))
      (by
        intro i off ft hi tf htf
        simp only [List.getElem?_map, Option.map_eq_some_iff, Prod.mk.injEq] at hi
        obtain ⟨fd, hfd, rfl, rfl⟩ := hi
        obtain ⟨ii, h1, h2, -⟩ := (hΓ.ty _ _ htf).info
        have hfd' : fields[i]? = some fd := by simpa using hfd
        simp [hfd', Program.cellsOf, h1, h2]) r _ _ out z.cells hr (zero_lfs hzs) hout
    refine end_put (e := .agg (retype ti.lts out)) hd hR hK (v := .agg cells') ?_ ⟨cells', rfl, retype_ok _ hl⟩ h9
    have h1 : (Instr.build t (ps.map fun (i, x) => (i, a.eval x))).run P w = .ok (.agg cells') w := by
      simp only [Instr.build, Sem.run_bind, hz, Result.andThen_ok, run_underlying hu, hpl]
      have : (ps.map fun (i, x) => (i, a.eval x)).toList = ps.toList.map fun p => (p.1, a.eval p.2) := by simp
      rw [this, hfill]
      rfl
    simp only [execOp, hop]
    rw [Sem.run_bind, h1]
    rfl
  · exact h.elim
end
end Go.E

namespace Go.E
open Go

section
variable {w : World} {I : Foot}
theorem RowsV.set {es : List LT} {vs : List Value} {ds : List T} (hv : LeavesR w I es vs ds) : ∀ {rows : List (List T)} {cs : List Value} (i : Nat), RowsV w I es rows cs → cs.length = rows.length * es.length → i < rows.length →
    RowsV w I es (rows.set i ds) (cs.take (i * es.length) ++ vs ++ cs.drop (i * es.length + es.length))
  | [], cs, i, _, _, hi => by simp at hi
  | r :: rs, cs, 0, h, hn, hi => by
    have hl := hv.len.1
    refine ⟨?_, ?_⟩
    · simp only [Nat.zero_mul, List.take_zero, List.nil_append]
      rw [List.take_append_of_le_length (by omega), ← hl, List.take_length]
      exact hv
    · simp only [Nat.zero_mul, List.take_zero, List.nil_append, Nat.zero_add]
      rw [List.drop_append_of_le_length (by omega), ← hl, List.drop_length, List.nil_append]
      rw [hl]; exact h.2
  | r :: rs, cs, i + 1, h, hn, hi => by
    simp only [List.length_cons, Nat.add_mul, Nat.one_mul] at hn
    have hle : es.length ≤ cs.length := by omega
    have e1 : (i + 1) * es.length = i * es.length + es.length := by rw [Nat.add_mul, Nat.one_mul]
    have ih := RowsV.set hv (rows := rs) (cs := cs.drop es.length) i h.2 (by rw [List.length_drop]; omega) (by simpa using hi)
    have hi' : i + 1 ≤ rs.length := by simp at hi; omega
    have hm : i * es.length + es.length ≤ rs.length * es.length := by rw [← e1]; exact Nat.mul_le_mul_right _ hi'
    refine ⟨?_, ?_⟩
    · rw [List.append_assoc, List.take_append_of_le_length (by rw [List.length_take]; omega), List.take_take, Nat.min_eq_left (by omega)]
      exact h.1
    · rw [List.append_assoc, List.drop_append_of_le_length (by rw [List.length_take]; omega), ← List.append_assoc, List.drop_take]
      rw [show (i + 1) * es.length - es.length = i * es.length from by omega]
      rw [List.drop_drop] at ih
      rw [show (i + 1) * es.length + es.length = es.length + (i * es.length + es.length) from by omega]
      exact ih
theorem zerosV {es : List LT} {zs : List Value} {z : List T} (hz : LeavesR w I es zs z) : ∀ (n k : Nat),
    RowsV w I es (List.replicate n z) ((List.range' (k * es.length) (n * es.length)).map fun p => zs.toArray[p % es.length]!)
  | 0, k => trivial
  | n + 1, k => by
    have hl := hz.len.1
    rw [show (n + 1) * es.length = es.length + n * es.length from by rw [Nat.add_mul]; omega, ← List.range'_append_1, List.map_append, List.replicate_succ]
    have hfst : (List.range' (k * es.length) es.length).map (fun p => zs.toArray[p % es.length]!) = zs := by
      apply List.ext_getElem (by simp [hl])
      intro j hj1 hj2
      have hjl : j < es.length := by simpa using hj1
      simp only [List.getElem_map, List.getElem_range', Nat.one_mul]
      rw [Nat.mul_comm k, Nat.mul_add_mod, Nat.mod_eq_of_lt hjl]
      simp [hj2]
    refine ⟨?_, ?_⟩
    · rw [List.take_append_of_le_length (by simp), List.take_of_length_le (by simp), hfst]
      exact hz
    · rw [List.drop_append_of_le_length (by simp), List.drop_of_length_le (by simp), List.nil_append]
      have := zerosV hz n (k + 1)
      rwa [Nat.add_mul, Nat.one_mul] at this
theorem zerosV' {es : List LT} {zs : List Value} {z : List T} (hz : LeavesR w I es zs z) (n : Nat) :
    RowsV w I es (List.replicate n z) ((Array.range (n * es.length)).map fun p => zs.toArray[p % es.length]!).toList := by
  have := zerosV hz n 0
  simpa [List.range_eq_range'] using this
end

theorem joinMs_noO : ∀ (f : Nat) (a b c : List M), noO a → noO b → joinM.go f a b = some c → noO c
  | f, [], [], c, _, _, h => by unfold joinM.go at h; cases h; exact fun _ h => (nomatch h)
  | f, [], _ :: _, c, _, _, h => by unfold joinM.go at h; cases h
  | f, _ :: _, [], c, _, _, h => by unfold joinM.go at h; cases h
  | f, x :: xs, y :: ys, c, ha, hb, h => by
    unfold joinM.go at h
    simp only [Option.bind_eq_bind, Option.bind_eq_some_iff, Option.some.injEq] at h
    obtain ⟨m, h1, ms, h2, rfl⟩ := h
    refine noO_cons ?_ (joinMs_noO f xs ys ms (fun z hz => ha z (by simp [hz])) (fun z hz => hb z (by simp [hz])) h2)
    intro z
    have hx := ha x (by simp)
    have hy := hb y (by simp)
    cases x <;> cases y <;> cases f <;> simp [joinM] at h1 <;> (try subst h1) <;> first | (intro e; cases e; done) | exact absurd rfl (hx _) | exact absurd rfl (hy _)

section
variable {Γ : Ctx} {P : Program} {cf : FuncId → List Arg → R3 Ret}
variable {n : Fr} {σ : S} {g : Gh} {I : Foot} {a : Act} {w w' : World}
variable {o : Oper} {f : FuncId} {tr : Tr} {Q : S → Tr → Prop} {K : Act → World → Prop} {Qm : Exit → Act → World → Prop}

theorem Post.mono {I' : Foot} (h : Post P n I w Q K) (hi : ∀ b o, I b o → I' b o) : Post P n I' w Q K :=
  fun σ' tr' g' I'' a' w' h1 h2 h3 h4 => h σ' tr' g' I'' a' w' h1 h2 (fun b o hb => h3 b o (hi b o hb)) (h4.weaken fun b o hb => hb.imp (hi b o) id)
def PartsV (w : World) (I : Foot) (es : List LT) : List (Nat × List M × List T) → List (Nat × Value) → Prop
  | [], [] => True
  | p :: ps, q :: qs => p.1 = q.1 ∧ noO p.2.1 ∧ LeavesR w I es q.2.cells.toList p.2.2 ∧ PartsV w I es ps qs
  | _, _ => False
theorem partsOf_wp {es : List LT} : ∀ {ps : List (Nat × Operand)} {σ : S} {I : Foot} {k : List (Nat × List M × List T) → Prog} {tr : Tr}, R n σ g I a w → (partsOf es ps k).wp cf σ tr Q →
    ∃ σ' I' r tr', R n σ' g I' a w ∧ Evo σ.k g w I σ'.k g w I' ∧ PartsV w I' es r (ps.map fun p => (p.1, a.eval p.2)) ∧ (k r).wp cf σ' tr' Q
  | [], σ, I, k, tr, hR, h => ⟨σ, I, [], tr, hR, Evo.refl, trivial, h⟩
  | (i, x) :: ps, σ, I, k, tr, hR, h => by
    obtain ⟨e, t1, he, h⟩ := rd_wp hR h
    obtain ⟨ls, hls, h⟩ := ofOpt_wp h
    obtain ⟨σ1, I1, t2, ms, ds, hR1, ev1, hm, hl, -, h⟩ := absorb_wp hR (entCells he hls) h
    obtain ⟨σ2, I2, r, t3, hR2, ev2, hr, h⟩ := partsOf_wp hR1 h
    exact ⟨σ2, I2, (i, ms, ds) :: r, t3, hR2, ev1.trans ev2, ⟨rfl, hm, hl.mono ev2.imm, hr⟩, h⟩
theorem fillRows_ok {es : List LT} : ∀ (r : List (Nat × List M × List T)) (vs : List (Nat × Value)) (ms out : List M) (rows rows' : List (List T)) (cells : Array Value), PartsV w I es r vs → noO ms → RowsV w I es rows cells.toList →
    cells.size = rows.length * es.length → fillRows es.length r ms rows = some (out, rows') →
      ∃ cells', Instr.fill (fun i => some (i * es.length, es.length)) cells vs = some cells' ∧ RowsV w I es rows' cells'.toList ∧ cells'.size = rows'.length * es.length ∧ rows'.length = rows.length ∧ noO out
  | [], [], ms, out, rows, rows', cells, _, hm, hl, hn, h => by cases h; exact ⟨cells, rfl, hl, hn, rfl, hm⟩
  | [], _ :: _, _, _, _, _, _, h, _, _, _, _ => h.elim
  | _ :: _, [], _, _, _, _, _, h, _, _, _, _ => h.elim
  | (i, m, ds) :: r, (i', v) :: vs, ms, out, rows, rows', cells, hp, hm, hl, hn, h => by
    obtain ⟨rfl, hm1, hv, hp⟩ := hp
    unfold fillRows at h
    split at h
    · rename_i hc
      simp only [Bool.and_eq_true, decide_eq_true_eq] at hc
      cases hj : joinMs ms m with
      | none => rw [hj] at h; cases h
      | some ms' =>
        rw [hj] at h
        have hvl := hv.len.1
        simp only [Array.length_toList] at hvl
        have hlt : (i + 1) * es.length ≤ rows.length * es.length := Nat.mul_le_mul_right _ hc.1
        rw [Nat.add_mul, Nat.one_mul] at hlt
        rw [fill_cons (off := i * es.length) (by rw [hvl]) (by omega)]
        have h1 := RowsV.set hv i hl (by simpa using hn) hc.1
        rw [hvl]
        obtain ⟨c', h2, h3, h4, h5, h6⟩ := fillRows_ok r vs ms' out (rows.set i ds) rows' _ hp (joinMs_noO 4 _ _ _ hm hm1 hj) (by rw [List.toList_toArray]; exact h1) (by
          simp only [List.size_toArray, List.length_append, List.length_take, List.length_drop, Array.length_toList, List.length_set]
          omega) h
        exact ⟨c', h2, h3, h4, by rw [h5, List.length_set], h6⟩
    · cases h
theorem scOnly_zero {es : List LT} {vs : List Value} (h : scOnly es = true) (hz : zeroVs es vs) : LeavesR w I es vs (es.map zeroD) := zero_leaves hz h
theorem noO_U (es : List LT) : noO (es.map fun _ => M.U) := by
  intro m hm x
  simp at hm
  obtain ⟨-, -, rfl⟩ := hm
  exact fun h => (nomatch h)
theorem noO_F (es : List LT) : noO (es.map fun _ => M.F) := by
  intro m hm x
  simp at hm
  obtain ⟨-, -, rfl⟩ := hm
  exact fun h => (nomatch h)

theorem Post.freeze {key : Key} {b : Bool} (hK : Post P n I w Q K) : Post P n I w (fun σ tr => (cond b (freezeK key .ret) .ret).wp cf σ tr Q) K := by
  intro σ' tr' g' I' a' w' hq hR' hi hk
  cases b with
  | false => exact hK _ _ _ _ _ _ hq hR' hi hk
  | true =>
    simp only [cond_true, freezeK, Prog.wp] at hq
    cases hc : (σ'.k key).ch with
    | row es ms rows =>
      rw [hc] at hq
      exact hK _ _ _ _ _ _ hq (hR'.freeze hc).1 (fun b o h => .inl (hi b o h)) hk
    | _ => rw [hc] at hq; exact hq.elim
theorem op_buildSlice (hΓ : CtxOk Γ P) (hd : dstOk n.np n.nt o = true) (hR : R n σ g I a w) (hK : Post P n I w Q K) {t : TypeId} {m : Nat} {ps : Array (Nat × Operand)} (hop : o.op = .buildSlice t m ps)
    (h : (opStep Γ f o).wp cf σ tr Q) : Goal P o a w K Qm := by
  simp only [opStep, hop] at h
  obtain ⟨d0, hdst, h⟩ := ofOpt_wp h
  obtain ⟨ti, -, hty, h⟩ := tyOf_wp hΓ h
  split at h
  · rename_i el es hk hlts
    obtain ⟨hc, h⟩ := h
    simp only [Bool.and_eq_true] at hc
    obtain ⟨hc1, hc2⟩ := hc
    have hc2 : m * es.length ≤ 16777216 := Nat.le_of_ble_eq_true hc2
    obtain ⟨hu, te, hte, hl, hne⟩ := kind_slice hty hk
    rw [hlts] at hl
    simp only [List.cons.injEq, LT.sl.injEq, and_true] at hl
    subst hl
    obtain ⟨σ1, I1, r, t1, hR1, ev1, hr, h⟩ := partsOf_wp hR h
    obtain ⟨⟨ms, rows⟩, hfr, h9⟩ := ofOpt_wp h
    have htok := hΓ.ty _ _ hte
    obtain ⟨z, hz, hzs⟩ := run_zeroValue (w := w) htok
    have hz1 : LeavesR w I1 te.lts z.cells.toList (te.lts.map zeroD) := scOnly_zero hc1 hzs
    have hzl := hz1.len.1
    simp only [Array.length_toList] at hzl
    let cells0 : Array Value := (Array.range (m * te.lts.length)).map fun p => z.cells[p % z.cells.size]!
    have hcells0 : RowsV w I1 te.lts (List.replicate m (te.lts.map zeroD)) cells0.toList := by
      have := zerosV' hz1 m
      simp only [Array.toArray_toList] at this
      simpa [cells0, hzl] using this
    obtain ⟨cells, hfill, hrows, hsz, hlen, hno⟩ := fillRows_ok r _ _ ms _ rows cells0 hr (noO_F _) hcells0 (by simp [cells0]) hfr
    simp only [List.length_replicate] at hlen
    have hpos : 0 < te.lts.length := List.length_pos_iff.2 hne
    have hmle : m ≤ 16777216 := Nat.le_trans (Nat.le_mul_of_pos_right m hpos) hc2
    refine end_row (cf := cf) (b := w.heap.size) (cap := m) (c := cells) (el := el) (fz := (0, 0)) (w' := World.pushed w (.cells cells el)) hdst hd hR1 (hK.freeze.mono fun b o h => (ev1.imm b o h).1) (keeps_push _ _) (Nat.le_refl _) (pushed_block _ _ _ _) (fun o' ho' => by omega) ?_ hne (by unfold maxCells; omega) (by omega) trivial (by rw [hsz, hlen]) hno hrows h9
    have h1 : (Instr.buildSlice t m (ps.map fun (i, x) => (i, a.eval x))).run P w = .ok (.slice (some ⟨w.heap.size, 0, none⟩) m m) (World.pushed w (.cells cells el)) := by
      have hgt : ¬ (m * te.lts.length > 2 ^ 24) := by omega
      simp only [Instr.buildSlice, Sem.run_bind, run_underlying hu, Result.andThen_ok, run_sizeOf htok, hgt, if_false, pure_bind]
      have e1 : (ps.map fun (i, x) => (i, a.eval x)).toList = ps.toList.map fun p => (p.1, a.eval p.2) := by simp
      by_cases h0 : m * te.lts.length = 0
      · rw [if_pos h0, e1]
        have e2 : ((Array.range (m * te.lts.length)).map fun x => (#[] : Array Value)[x % (#[] : Array Value).size]!) = cells0 := by simp [cells0, h0]
        rw [e2, hfill]
        simp only [Sem.run_bind, run_newRow, Result.andThen_ok]
        rfl
      · rw [if_neg h0]
        simp only [Sem.run_bind, hz, Result.andThen_ok, e1]
        have e2 : ((Array.range (m * te.lts.length)).map fun x => z.cells[x % z.cells.size]!) = cells0 := rfl
        rw [e2, hfill]
        simp only [Sem.run_bind, run_newRow, Result.andThen_ok]
        rfl
    rw [hlen]
    simp only [execOp, hop]
    rw [Sem.run_bind, h1]
    rfl
  · exact h.elim
end
end Go.E

namespace Go.E
open Go

theorem wrap_id {x : Int} (h : IntKind.i64.min ≤ x ∧ x ≤ IntKind.i64.max) : IntKind.i64.wrap x = x := by
  have e1 : IntKind.i64.min = -9223372036854775808 := by decide
  rw [e1, i64max] at h
  have e64 : (2 : Int) ^ 64 = 18446744073709551616 := by decide
  have e63 : (2 : Int) ^ 63 = 9223372036854775808 := by decide
  simp only [IntKind.wrap, IntKind.bits, IntKind.signed, Bool.true_and, Nat.reduceSub, e64, e63, decide_eq_true_eq]
  split <;> omega

section
variable {Γ : Ctx} {P : Program} {cf : FuncId → List Arg → R3 Ret}
variable {n : Fr} {σ : S} {g : Gh} {I : Foot} {a : Act} {w w' : World}
variable {o : Oper} {f : FuncId} {tr : Tr} {Q : S → Tr → Prop} {K : Act → World → Prop} {Qm : Exit → Act → World → Prop}

theorem op_makeSlice (hΓ : CtxOk Γ P) (hd : dstOk n.np n.nt o = true) (hR : R n σ g I a w) (hK : Post P n I w Q K) {t : TypeId} {xl xc : Operand} (hop : o.op = .makeSlice t xl xc)
    (h : (opStep Γ f o).wp cf σ tr Q) : Goal P o a w K Qm := by
  simp only [opStep, hop] at h
  obtain ⟨d0, hdst, h⟩ := ofOpt_wp h
  obtain ⟨ti, -, hty, h⟩ := tyOf_wp hΓ h
  obtain ⟨el', t1, hel', h⟩ := rd_wp hR h
  obtain ⟨ec', t2, hec', h⟩ := rd_wp hR h
  obtain ⟨sl, l, rfl, hl, h⟩ := scal_wp hel' h
  obtain ⟨sc, c, rfl, hc, h⟩ := scal_wp hec' h
  split at h
  · have hk : ∃ el es, ti.kind = .slice el ∧ ti.lts = [.sl es] ∧ (tyOf Γ el fun te =>
          .chk (scOnly es && decide (0 ≤ l.int ∧ l.int ≤ c.int)) (.chk (decide (c.int * te.bytes ≤ maxCells)) (mkRow d0 es (es.map fun _ => .F) (List.replicate l.int.toNat (es.map zeroD))))).wp cf σ t2 Q := ⟨_, _, by assumption, by assumption, h⟩
    clear h
    obtain ⟨el, es, hk, hlts, h⟩ := hk
    obtain ⟨lv, hlv, rfl, hl1⟩ := hl
    obtain ⟨cv, hcv, rfl, hc1⟩ := hc
    obtain ⟨hu, te, hte, hl', hne⟩ := kind_slice hty hk
    rw [hlts] at hl'
    simp only [List.cons.injEq, LT.sl.injEq, and_true] at hl'
    subst hl'
    obtain ⟨te', hte', htok, h⟩ := tyOf_wp hΓ h
    rw [hte] at hte'
    cases hte'
    obtain ⟨hb, h⟩ := h
    simp only [Bool.and_eq_true] at hb
    obtain ⟨hb1, hb2⟩ := hb
    have hb2 := of_decide_eq_true hb2
    obtain ⟨hb3, h⟩ := h
    have hb3 := of_decide_eq_true hb3
    simp only [T.int] at hb2 hb3 h
    obtain ⟨z, hz, hzs⟩ := run_zeroValue (w := w) htok
    obtain ⟨inf, hi1, hi2, hi3, hi4, -⟩ := htok.info
    have hz1 : LeavesR w I te.lts z.cells.toList (te.lts.map zeroD) := scOnly_zero hb1 hzs
    have hzl := hz1.len.1
    simp only [Array.length_toList] at hzl
    let cells : Array Value := (Array.range (cv.toNat * te.lts.length)).map fun p => z.cells[p % z.cells.size]!
    have hcells : RowsV w I te.lts (List.replicate cv.toNat (te.lts.map zeroD)) cells.toList := by
      have := zerosV' hz1 cv.toNat
      simp only [Array.toArray_toList] at this
      simpa [cells, hzl] using this
    have hrows : RowsV w I te.lts (List.replicate lv.toNat (te.lts.map zeroD)) cells.toList := by
      have : ∀ (m k : Nat) (cs : List Value), m ≤ k → RowsV w I te.lts (List.replicate k (te.lts.map zeroD)) cs → RowsV w I te.lts (List.replicate m (te.lts.map zeroD)) cs := by
        intro m
        induction m with
        | zero => intro k cs _ _; trivial
        | succ m ih =>
          intro k cs hk h
          cases k with
          | zero => omega
          | succ k => exact ⟨h.1, ih k _ (by omega) h.2⟩
      exact this _ _ _ (by omega) hcells
    have hpos : 0 < te.lts.length := List.length_pos_iff.2 hne
    have hcb : cv.toNat * te.bytes ≤ maxCells := by
      have : ((cv.toNat * te.bytes : Nat) : Int) = cv * te.bytes := by rw [Int.natCast_mul, Int.toNat_of_nonneg (by omega)]
      omega
    have hcl : cv.toNat * te.lts.length ≤ maxCells := Nat.le_trans (Nat.mul_le_mul_left _ (by omega)) hcb
    have hcc : cv.toNat ≤ cv.toNat * te.lts.length := Nat.le_mul_of_pos_right _ hpos
    refine end_row (b := w.heap.size) (cap := cv.toNat) (c := cells) (el := el) (fz := (0, 0)) (w' := World.pushed w (.cells cells el)) hdst hd hR hK (keeps_push _ _) (Nat.le_refl _) (pushed_block _ _ _ _) (fun o' ho' => by omega) ?_ hne (by rw [List.length_replicate]; omega) (by rw [List.length_replicate]; omega) trivial (by simp [cells]) (noO_F _) hrows h
    rw [List.length_replicate]
    have h1 : (Instr.makeSlice t (a.eval xl) (a.eval xc)).run P w = .ok (.slice (some ⟨w.heap.size, 0, none⟩) lv.toNat cv.toNat) (World.pushed w (.cells cells el)) := by
      have hti : (typeInfo el).run P w = .ok inf w := by simp [typeInfo, hi1, go_sem]
      have hroom : ¬ (cv.toNat * inf.bytes > roomBytes) := by rw [← hi3]; unfold roomBytes; unfold maxCells at hcb; omega
      have hbig : ¬ ((inf.bytes : Int) * cv > 2 ^ 48) := by
        rw [← hi3, Int.mul_comm]; unfold maxCells at hb3; omega
      simp only [Instr.makeSlice, Sem.run_bind, run_underlying hu, Result.andThen_ok, hlv, hcv, asInt, asIntOf, pure_bind, hti, wrap_id hl1, wrap_id hc1]
      rw [if_neg (by simp [hbig]; omega)]
      simp only [askRoom, hroom, if_false, pure_bind, run_sizeOf htok, Sem.run_bind, Result.andThen_ok]
      by_cases h0 : cv.toNat * te.lts.length = 0
      · rw [if_pos h0]
        have e2 : ((Array.range (cv.toNat * te.lts.length)).map fun x => (#[] : Array Value)[x % (#[] : Array Value).size]!) = cells := by simp [cells, h0]
        rw [e2]
        simp only [Sem.run_bind, run_newRow, Result.andThen_ok]
        rfl
      · rw [if_neg h0]
        simp only [Sem.run_bind, hz, Result.andThen_ok]
        have e2 : ((Array.range (cv.toNat * te.lts.length)).map fun x => z.cells[x % z.cells.size]!) = cells := rfl
        rw [e2]
        simp only [Sem.run_bind, run_newRow, Result.andThen_ok]
        rfl
    simp only [execOp, hop]
    rw [Sem.run_bind, h1]
    rfl
  · exact h.elim
end
end Go.E

namespace Go.E
open Go

section
variable {Γ : Ctx} {P : Program} {cf : FuncId → List Arg → R3 Ret}
variable {n : Fr} {σ : S} {g : Gh} {I : Foot} {a : Act} {w w' : World}
variable {o : Oper} {f : FuncId} {tr : Tr} {Q : S → Tr → Prop} {K : Act → World → Prop} {Qm : Exit → Act → World → Prop}

/-- memory that is new may be read alone from now on -/
theorem R.grow (hR : R n σ g I a w) {b : Nat} (hb : w.heap.size ≤ b) (hk : Keeps (fun _ _ => True) w w') {c : Array Value} {el : TypeId} {fz : Nat × Nat} (hblk : Block w' b c el fz) :
    R n σ g (fun b' o' => I b' o' ∨ (b' = b ∧ o' < c.size)) a w' := by
  have h1 := hR.world hk
  have ev : Evo σ.k g w' I σ.k g w' (fun b' o' => I b' o' ∨ (b' = b ∧ o' < c.size)) :=
    ⟨fun _ => Nat.le_refl _, fun _ => Nat.le_refl _, fun u _ hl b o hf => ⟨.inl ⟨hl, hf⟩, rfl⟩, fun _ _ => ⟨rfl, rfl⟩, fun _ _ h => ⟨.inl h, rfl⟩⟩
  refine ⟨h1.size, h1.nd, fun t => ev.ent (h1.slots t), fun k => ChR.keep ev (Keeps.refl (fun _ _ => True) w') (fun _ _ _ _ => trivial) rfl rfl (h1.chs k), h1.sep, fun k hl b' o' hf hi => ?_, fun b' o' hi => ?_, h1.x.step (Keeps.refl _ _) (fun _ h => .inl ⟨h, rfl, rfl⟩) (fun b' o' hi => ?_)⟩
  · rcases hi with hi | ⟨rfl, hi⟩
    · exact h1.imm k hl b' o' hf hi
    · have := cell_lt (live_cell hR hl hf)
      omega
  · rcases hi with hi | ⟨rfl, hi⟩
    · exact h1.iwf b' o' hi
    · rw [block_cell hblk]
      exact ⟨_, Array.getElem?_eq_getElem hi⟩
  · refine hi.imp id ?_
    rintro ⟨rfl, hi⟩ ha
    have := cell_lt (hR.x.awf _ _ ha)
    omega

theorem bytesRows_leaf {S : Foot} {b : Nat} {c : Array Value} {el : TypeId} {fz : Nat × Nat} (hblk : Block w b c el fz) (hS : ∀ o', o' < c.size → S b o') : ∀ (l : List UInt8) (k : Nat), k + l.length ≤ c.size →
    (∀ j (hj : j < l.length), c[k + j]? = some (.int .u8 l[j].toNat)) → ∀ i (hi : i < (l.map fun x => [T.i x.toNat]).length), RowR w S S [.sc (.int .u8)] b (k + i * 1) (l.map fun x => [T.i x.toNat])[i] := by
  intro l k hk hc i hi
  simp only [List.length_map] at hi
  simp only [List.getElem_map]
  unfold RowR
  have hlt := UInt8.toNat_lt l[i]
  refine ⟨_, [], .int .u8 l[i].toNat, rfl, hS _ (by omega), ?_, ?_, by unfold RowR; rfl⟩
  · rw [block_cell hblk, Nat.mul_one]; exact hc i hi
  · unfold LeafR
    refine ⟨_, rfl, rfl, ?_⟩
    simp only [IntKind.min, IntKind.max, IntKind.bits, IntKind.signed]
    constructor
    · simp
    · simp only [Bool.false_eq_true, if_false]; omega

def World.strs (w : World) (s : ByteArray) (cap : Nat) (el : TypeId) : World :=
  World.pushed { w with drawn := w.drawn + 1 } (.cells (s.data.map (fun b => Value.int .u8 b.toNat) ++ Array.replicate (cap - s.size) (.int .u8 0)) el (cap, cap + 1))
theorem op_convert_str (hΓ : CtxOk Γ P) (hd : dstOk n.np n.nt o = true) (hR : R n σ g I a w) (hK : Post P n I w Q K) {s t : TypeId} {ts tt : TI} {x : Operand} {d0 : Nat} (hop : o.op = .convert s t x)
    (hdst : o.dst = some d0) (hts : TyOk Γ P s ts) (htt : TyOk Γ P t tt) {e : Ent} (he : EntR σ.k g w I e (a.eval x)) {el : TypeId} (hk1 : ts.kind = .sc .str) (hk2 : tt.kind = .slice el)
    (h : (convStep Γ d0 ts tt e).wp cf σ tr Q) : Goal P o a w K Qm := by
  obtain ⟨ds, hus, hks⟩ := hts.und
  unfold convStep at h
  rw [hk1, hk2] at h
  rw [hk1] at hks
  obtain ⟨rfl, -⟩ := hks
  simp only at h
  obtain ⟨hut, -⟩ := kind_slice htt hk2
  obtain ⟨te, -, hte, h⟩ := tyOf_wp hΓ h
  obtain ⟨hb, h⟩ := h
  obtain ⟨de, hue, hke⟩ := hte.und
  rw [isByteK_eq hb] at hke
  obtain ⟨rfl, -⟩ := hke
  obtain ⟨st, d, rfl, hv, h⟩ := scal_wp he h
  split at h
  · obtain ⟨str, hv, rfl, hsz⟩ := hv
    obtain ⟨h1, h⟩ := h
    have h1 := of_decide_eq_true h1
    simp only [T.str] at h1 h
    obtain ⟨hdn, hkp⟩ := dst_ok hd hdst
    let cap := (Question.appendCap str.size 0 el).cut (w.tape w.drawn (.appendCap str.size 0 el))
    have hcap : str.size ≤ cap := by simp only [cap, Question.cut]; omega
    let c : Array Value := str.data.map (fun b => Value.int .u8 b.toNat) ++ Array.replicate (cap - str.size) (.int .u8 0)
    have hcs : c.size = cap := by
      have : str.data.size = str.size := rfl
      simp only [c, Array.size_append, Array.size_map, Array.size_replicate]
      omega
    have hrun : (execOp a.eval o).run P w = .ok (.value (.slice (some ⟨w.heap.size, 0, none⟩) str.size cap)) (World.strs w str cap el) := by
      refine run_convert hop ?_
      rw [hv]
      simp only [convert, Sem.run_bind, run_underlying hus, run_underlying hut, run_underlying hue, Result.andThen_ok]
      unfold Conv.stringToBytes
      simp only [Sem.run_bind]
      have hch : (choose (.appendCap str.size 0 el)).run P w = .ok cap { w with drawn := w.drawn + 1 } := by
        simp [choose, Sem.run, Question.forced, cap]
      rw [hch]
      simp only [Result.andThen_ok, run_newRow]
      have hms : (markStringish ⟨w.heap.size, 0, none⟩).run P (World.pushed { w with drawn := w.drawn + 1 } (.cells c el)) = .ok () (World.strs w str cap el) := by
        have hsh : (shape w.heap.size).run P (World.pushed { w with drawn := w.drawn + 1 } (.cells c el)) = .ok (some (el, cap)) (World.pushed { w with drawn := w.drawn + 1 } (.cells c el)) := by
          simp only [shape, Sem.run, World.shape?, World.pushed, Array.getElem?_push_size, hcs]
        unfold markStringish
        simp only [Sem.run_bind, hsh, Result.andThen_ok]
        simp only [freeze, Sem.run, World.freeze, World.pushed, World.strs]
        rw [if_neg (by omega)]
        congr 1
        simp only [World.mk.injEq, and_true]
        apply Array.ext
        · simp
        · intro i hi1 hi2
          simp only [Array.size_modify, Array.size_push] at hi1
          rw [Array.getElem_modify]
          split
          · rename_i hi
            subst hi
            simp [c]
          · rename_i hi
            rw [Array.getElem_push_lt (by omega), Array.getElem_push_lt (by omega)]
      rw [hms]
      rfl
    have hk : Keeps (fun _ _ => True) w (World.strs w str cap el) := Keeps.trans (fun _ _ h => h) (keeps_drawn w (w.drawn + 1)) (keeps_push _ _)
    have hblk : Block (World.strs w str cap el) w.heap.size c el (cap, cap + 1) := pushed_block { w with drawn := w.drawn + 1 } c el (cap, cap + 1)
    have hR' := hR.grow (Nat.le_refl _) hk hblk
    refine goal_value hrun ?_
    rw [hdst]
    refine hK _ _ _ _ _ _ h (hR'.put hdn (e := .one ⟨.sn [], .sl [.sc (.int .u8)], .l (bytesRows str)⟩) ⟨⟨fun _ h => (nomatch h), fun _ h => (nomatch h)⟩, trivial, old_nil _, fun _ => ?_⟩) (fun _ _ h => .inl h) (hk.weaken fun _ _ _ => trivial)
    have hl0 : str.data.toList.length = str.size := rfl
    have hlen : (bytesRows str).length = str.size := by unfold bytesRows; rw [List.length_map]; exact hl0
    have hrows : ∀ i (hi : i < (bytesRows str).length), RowR (World.strs w str cap el) (depFoot σ.k g (fun b' o' => I b' o' ∨ (b' = w.heap.size ∧ o' < c.size)) []) (depFoot σ.k g (fun b' o' => I b' o' ∨ (b' = w.heap.size ∧ o' < c.size)) []) [.sc (.int .u8)] w.heap.size (0 + i * 1) (bytesRows str)[i] := by
      refine bytesRows_leaf hblk (fun o' ho' => .inl (.inr ⟨rfl, ho'⟩)) str.data.toList 0 (by omega) ?_
      intro j hj
      have hj' : j < str.data.size := hj
      simp only [c, Nat.zero_add]
      rw [Array.getElem?_append_left (by rw [Array.size_map]; exact hj'), Array.getElem?_map, Array.getElem?_eq_getElem hj']
      rfl
    have := leafSl_mk (w := World.strs w str cap el) (S := depFoot σ.k g (fun b' o' => I b' o' ∨ (b' = w.heap.size ∧ o' < c.size)) []) (es := [.sc (.int .u8)]) (aa := some ⟨w.heap.size, 0, none⟩) (cap := cap) (rows := bytesRows str)
      (by omega) (by omega) (.inr ⟨w.heap.size, 0, rfl, hrows⟩)
    rw [hlen] at this
    exact this
  · exact h.elim

end
end Go.E

namespace Go.E
open Go

section
variable {Γ : Ctx} {P : Program} {cf : FuncId → List Arg → R3 Ret}
variable {n : Fr} {σ : S} {g : Gh} {I : Foot} {a : Act} {w w' : World}
variable {o : Oper} {f : FuncId} {tr : Tr} {Q : S → Tr → Prop} {K : Act → World → Prop} {Qm : Exit → Act → World → Prop}

theorem minmax_ok {fm : Int → Int → Int} (hr : ∀ x y, fm x y = x ∨ fm x y = y) {es : List Ent} {vs : List Value} {k : IntKind} {m : Int} (hes : EntsR σ.k g w I es vs) (h : minmax fm es = some (k, m)) :
    ∃ x y, vs = [.int k x, .int k y] ∧ m = fm x y ∧ k.min ≤ m ∧ m ≤ k.max := by
  unfold minmax at h
  split at h
  · rename_i k1 x k2 y
    split at h
    · rename_i hk
      subst hk
      cases h
      cases vs with
      | nil => exact hes.elim
      | cons v1 vs =>
        cases vs with
        | nil => exact hes.2.elim
        | cons v2 vs =>
          cases vs with
          | cons _ _ => exact hes.2.2.elim
          | nil =>
            have h1 : ScR (.int k) v1 x := by obtain ⟨-, s1, e1, h1⟩ := hes.1; cases e1; exact h1
            have h2 : ScR (.int k) v2 y := by obtain ⟨-, s1, e1, h1⟩ := hes.2.1; cases e1; exact h1
            obtain ⟨x, rfl, rfl, hx⟩ := h1
            obtain ⟨y, rfl, rfl, hy⟩ := h2
            refine ⟨x, y, rfl, rfl, ?_⟩
            simp only [T.int]
            rcases hr x y with e | e <;> rw [e]
            · exact hx
            · exact hy
    · cases h
  · cases h
theorem op_min (hΓ : CtxOk Γ P) (hd : dstOk n.np n.nt o = true) (hR : R n σ g I a w) (hK : Post P n I w Q K) {c : Call} (hop : o.op = .call c) (hc : c.callee = .builtin .min)
    (h : (opStep Γ f o).wp cf σ tr Q) : Goal P o a w K Qm := by
  simp only [opStep, hop, hc] at h
  obtain ⟨es, t1, hes, h⟩ := rdAll_wp hR h
  obtain ⟨⟨k, m⟩, hm, h⟩ := ofOpt_wp h
  obtain ⟨x, y, hv, rfl, hr⟩ := minmax_ok (fun x y => by unfold minI; split <;> simp) hes hm
  have hargs : c.args.map a.eval = #[.int k x, .int k y] := by apply Array.toList_inj.1; simpa using hv
  refine end_sc hd hR hK (s := .int k) (v := .int k (minI x y)) (run_builtin hop hc ?_) ⟨_, rfl, rfl, hr⟩ h
  rw [hargs]
  simp [builtin, Builtin.min_, Builtin.min2, minI]
theorem op_max (hΓ : CtxOk Γ P) (hd : dstOk n.np n.nt o = true) (hR : R n σ g I a w) (hK : Post P n I w Q K) {c : Call} (hop : o.op = .call c) (hc : c.callee = .builtin .max)
    (h : (opStep Γ f o).wp cf σ tr Q) : Goal P o a w K Qm := by
  simp only [opStep, hop, hc] at h
  obtain ⟨es, t1, hes, h⟩ := rdAll_wp hR h
  obtain ⟨⟨k, m⟩, hm, h⟩ := ofOpt_wp h
  obtain ⟨x, y, hv, rfl, hr⟩ := minmax_ok (fun x y => by unfold maxI; split <;> simp) hes hm
  have hargs : c.args.map a.eval = #[.int k x, .int k y] := by apply Array.toList_inj.1; simpa using hv
  refine end_sc hd hR hK (s := .int k) (v := .int k (maxI x y)) (run_builtin hop hc ?_) ⟨_, rfl, rfl, hr⟩ h
  rw [hargs]
  simp [builtin, Builtin.max_, Builtin.max2, maxI]

/-! storing -/
def World.put (w : World) (b : Nat) (c : Array Value) (el : TypeId) (fz : Nat × Nat) : World := { w with heap := w.heap.setIfInBounds b (.cells c el fz) }
theorem put_block {b : Nat} {c c' : Array Value} {el : TypeId} {fz : Nat × Nat} (h : Block w b c el fz) : Block (World.put w b c' el fz) b c' el fz := by
  have hlt := (Array.getElem?_eq_some_iff.1 h).1
  unfold Block World.put
  simp only
  rw [Array.getElem?_setIfInBounds_self_of_lt hlt]
theorem put_keeps {b : Nat} {c c' : Array Value} {el : TypeId} {fz : Nat × Nat} (h : Block w b c el fz) (hs : c'.size = c.size) {A : Foot} (hA : ∀ o, A b o → c'[o]? = c[o]?) : Keeps A w (World.put w b c' el fz) := by
  refine ⟨by simp [World.put], fun b' x hx => ?_, rfl, rfl, rfl⟩
  by_cases hb : b' = b
  · subst hb
    have hx' : x = .cells c el fz := by
      have h1 : w.heap[b']? = some (.cells c el fz) := h
      rw [h1] at hx; exact (Option.some.inj hx).symm
    subst hx'
    exact ⟨_, put_block h, c', rfl, hs, hA⟩
  · refine ⟨x, ?_, KeepObj.refl _ _ _⟩
    unfold World.put
    simp only
    rw [Array.getElem?_setIfInBounds_ne (Ne.symm hb)]
    exact hx
theorem run_storeCells {b : Nat} {el : TypeId} {fz : Nat × Nat} : ∀ (vs : List Value) (i o : Nat) (c : Array Value) (w : World), Block w b c el fz → o + i + vs.length ≤ c.size → (∀ v ∈ vs, Single v) → (∀ j, j < vs.length → ¬ (fz.1 ≤ o + i + j ∧ o + i + j < fz.2)) →
    ∃ c', (storeCells ⟨b, o, none⟩ vs i).run P w = .ok () (World.put w b c' el fz) ∧ c'.toList = c.toList.take (o + i) ++ vs ++ c.toList.drop (o + i + vs.length)
  | [], i, o, c, w, hb, hn, hs, hf => by
    refine ⟨c, ?_, by simp⟩
    have : World.put w b c el fz = w := by
      unfold World.put
      have h1 : w.heap[b]? = some (.cells c el fz) := hb
      have h2 : w.heap.setIfInBounds b (.cells c el fz) = w.heap := by
        apply Array.ext (by simp)
        intro j hj1 hj2
        rw [Array.getElem_setIfInBounds (by simpa using hj1)]
        split
        · rename_i e; subst e
          rw [Array.getElem?_eq_getElem hj2] at h1
          exact (Option.some.inj h1).symm
        · rfl
      rw [h2]
    rw [this]
    simp [storeCells]
  | v :: vs, i, o, c, w, hb, hn, hs, hf => by
    simp only [List.length_cons] at hn
    have hv := hs v (by simp)
    have hcell : w.cell? ⟨b, o + i, none⟩ = some c[o + i] := by
      have := block_cell (o := o + i) hb
      rw [Array.getElem?_eq_getElem (by omega)] at this
      exact this
    have hfr : w.frozen? ⟨b, o + i, none⟩ = false := by
      have h1 : w.heap[b]? = some (.cells c el fz) := hb
      have h2 := hf 0 (by simp)
      simp only [World.frozen?, h1]
      simp only [Nat.add_zero] at h2
      simpa using h2
    have hset : w.setCell ⟨b, o + i, none⟩ v = World.put w b (c.setIfInBounds (o + i) v) el fz := by
      have h1 : w.heap[b]? = some (.cells c el fz) := hb
      unfold World.setCell World.put
      congr 1
      apply Array.ext (by simp)
      intro j hj1 hj2
      rw [Array.getElem_modify, Array.getElem_setIfInBounds (by simpa using hj2)]
      split
      · rename_i e
        subst e
        have h2 : w.heap[b]'(by simpa using hj1) = .cells c el fz := by
          rw [Array.getElem?_eq_getElem (by simpa using hj1)] at h1
          exact Option.some.inj h1
        rw [h2]
        simp
      · rfl
    have hb' : Block (World.put w b (c.setIfInBounds (o + i) v) el fz) b (c.setIfInBounds (o + i) v) el fz := put_block hb
    obtain ⟨c', h1, h2⟩ := run_storeCells vs (i + 1) o (c.setIfInBounds (o + i) v) _ hb' (by simp; omega) (fun u hu => hs u (by simp [hu])) (fun j hj => by
      have := hf (j + 1) (by simp; omega)
      rwa [show o + i + (j + 1) = o + (i + 1) + j from by omega] at this)
    refine ⟨c', ?_, ?_⟩
    · simp only [storeCells, Sem.run_bind, addr_add]
      have hst : (store ⟨b, o + i, none⟩ v).run P w = .ok () (World.put w b (c.setIfInBounds (o + i) v) el fz) := by
        unfold store
        cases v with
        | agg cs => exact absurd rfl (hv.1 cs)
        | tuple cs => exact absurd rfl (hv.2 cs)
        | _ => simp only [Sem.run, hcell, hfr, Bool.false_eq_true, if_false, hset]
      rw [hst]
      simp only [Result.andThen_ok]
      rw [h1]
      congr 1
      unfold World.put
      simp
    · rw [h2]
      have hlt : o + i < c.toList.length := by rw [Array.length_toList]; omega
      simp only [Array.toList_setIfInBounds, List.length_cons]
      rw [show o + (i + 1) = o + i + 1 from by omega]
      rw [List.take_add_one, List.take_set_of_le (by omega), List.getElem?_set_self hlt, List.drop_set_of_lt (by omega), show o + i + (vs.length + 1) = o + i + 1 + vs.length from by omega]
      simp
theorem LfsR.single {κ : Key → KE} : ∀ {ls : List Leaf} {vs : List Value}, LfsR κ g w I ls vs → ∀ v ∈ vs, Single v
  | [], [], _, v, hv => (nomatch hv)
  | _ :: ls, u :: vs, h, v, hv => by
    rcases List.mem_cons.1 hv with rfl | hv
    · exact h.1.1
    · exact LfsR.single h.2 v hv
  | [], _ :: _, h, _, _ => h.elim
  | _ :: _, [], h, _, _ => h.elim
theorem run_store_op {ρ : Operand → Value} {t : TypeId} {ti : TI} {x y : Operand} {b o' : Nat} {el : TypeId} {fz : Nat × Nat} {c : Array Value} (hty : TyOk Γ P t ti) (hop : o.op = .store t x y) (hx : ρ x = .pointer (some ⟨b, o', none⟩))
    (hb : Block w b c el fz) (hn : o' + (ρ y).cells.size ≤ c.size) (hsz : (ρ y).cells.size = ti.lts.length) (hs : ∀ v ∈ (ρ y).cells.toList, Single v) (hf : ∀ j, j < (ρ y).cells.size → ¬ (fz.1 ≤ o' + j ∧ o' + j < fz.2)) :
    ∃ c', (execOp ρ o).run P w = .ok .skip (World.put w b c' el fz) ∧ c'.toList = c.toList.take o' ++ (ρ y).cells.toList ++ c.toList.drop (o' + (ρ y).cells.size) := by
  obtain ⟨c', h1, h2⟩ := run_storeCells (P := P) (ρ y).cells.toList 0 o' c w hb (by simpa using hn) hs (by simpa using hf)
  refine ⟨c', ?_, by simpa using h2⟩
  have h3 : (Instr.storeAt t (ρ x) (ρ y)).run P w = .ok () (World.put w b c' el fz) := by
    simp only [Instr.storeAt, hx, Instr.sureAddr, pure_bind, storeVar, Sem.run_bind, run_sizeOf hty, Result.andThen_ok, hsz, ne_eq, not_true_eq_false, if_false]
    exact h1
  simp only [execOp, hop]
  rw [Sem.run_bind, h3]
  rfl
end
end Go.E

namespace Go.E
open Go

theorem setMany_eq : ∀ (ds : List T) (row : List T) (off : Nat), off + ds.length ≤ row.length → setMany row off ds = row.take off ++ ds ++ row.drop (off + ds.length)
  | [], row, off, h => by simp [setMany]
  | d :: ds, row, off, h => by
    simp only [List.length_cons] at h
    unfold setMany
    rw [setMany_eq ds (row.set off d) (off + 1) (by simp; omega)]
    rw [List.take_add_one, List.take_set_of_le (by omega), List.getElem?_set_self (by omega), List.drop_set_of_lt (by omega), List.length_cons, show off + (ds.length + 1) = off + 1 + ds.length from by omega]
    simp
theorem setModes_noO : ∀ (m ms : List M) (off : Nat) (out : List M), noO ms → noO m → setModes ms off m = some out → noO out
  | [], ms, off, out, h, _, e => by unfold setModes at e; cases e; exact h
  | x :: m, ms, off, out, h, hm, e => by
    unfold setModes at e
    split at e
    · rename_i y hy
      refine setModes_noO m _ _ out ?_ (fun z hz => hm z (by simp [hz])) e
      have hx := hm x (by simp)
      have ho : ∀ z, ms.getD off .U ≠ .O z := by
        intro z
        rw [List.getD]
        cases hj : ms[off]? with
        | none => simp
        | some u => simpa using h u (List.mem_of_getElem? hj) z
      have hyo : ∀ z, y ≠ .O z := by
        intro z
        generalize ms.getD off .U = u at hy ho
        cases u <;> cases x <;> simp [joinM] at hy <;> (try subst hy) <;> first | (intro e; cases e; done) | exact absurd rfl (ho _) | exact absurd rfl (hx _)
      intro u hu z
      rcases List.mem_or_eq_of_mem_set hu with hu | rfl
      · exact h u hu z
      · exact hyo z
    · cases e
section
variable {w : World} {I S : Foot}
theorem LeavesR.take : ∀ {es : List LT} {vs : List Value} {ds : List T} (k : Nat), LeavesR w S es vs ds → LeavesR w S (es.take k) (vs.take k) (ds.take k)
  | es, vs, ds, 0, h => by simp [LeavesR]
  | [], [], [], k + 1, h => trivial
  | _ :: es, _ :: vs, _ :: ds, k + 1, h => ⟨h.1, LeavesR.take k h.2⟩
  | [], _ :: _, _, _ + 1, h => h.elim
  | [], [], _ :: _, _ + 1, h => h.elim
  | _ :: _, [], _, _ + 1, h => h.elim
  | _ :: _, _ :: _, [], _ + 1, h => h.elim
theorem LeavesR.app : ∀ {es es' : List LT} {vs vs' : List Value} {ds ds' : List T}, LeavesR w S es vs ds → LeavesR w S es' vs' ds' → LeavesR w S (es ++ es') (vs ++ vs') (ds ++ ds')
  | [], es', [], vs', [], ds', _, h => h
  | _ :: _, _, _ :: _, _, _ :: _, _, h, h' => ⟨h.1, LeavesR.app h.2 h'⟩
  | [], _, _ :: _, _, _, _, h, _ => h.elim
  | [], _, [], _, _ :: _, _, h, _ => h.elim
  | _ :: _, _, [], _, _, _, h, _ => h.elim
  | _ :: _, _, _ :: _, _, [], _, h, _ => h.elim
theorem LeavesR.set {es : List LT} {vs us : List Value} {row ds : List T} {off : Nat} (h : LeavesR w S es vs row) (h' : LeavesR w S ((es.drop off).take ds.length) us ds) (hn : off + ds.length ≤ es.length) :
    LeavesR w S es (vs.take off ++ us ++ vs.drop (off + ds.length)) (setMany row off ds) := by
  have hl := h.len
  rw [setMany_eq ds row off (by omega)]
  have := ((h.take off).app h').app (h.drop (off + ds.length))
  have e : es.take off ++ (es.drop off).take ds.length ++ es.drop (off + ds.length) = es := by
    rw [List.append_assoc, ← List.drop_drop, List.take_append_drop, List.take_append_drop]
  rwa [e] at this
end

section
variable {Γ : Ctx} {P : Program} {cf : FuncId → List Arg → R3 Ret}
variable {n : Fr} {σ : S} {g : Gh} {I : Foot} {a : Act} {w w' : World}
variable {o : Oper} {f : FuncId} {tr : Tr} {Q : S → Tr → Prop} {K : Act → World → Prop} {Qm : Exit → Act → World → Prop}

theorem CellsAt.get : ∀ {vs : List Value} {b o : Nat}, CellsAt w b o vs → ∀ j (hj : j < vs.length), cellAt w b (o + j) = some vs[j]
  | [], b, o, _, j, hj => by simp at hj
  | v :: vs, b, o, h, 0, hj => h.1
  | v :: vs, b, o, h, j + 1, hj => by
    have := CellsAt.get h.2 j (by simpa using hj)
    rwa [show o + 1 + j = o + (j + 1) from by omega] at this
/-- what is behind a name turns; the name stays -/
theorem evo_write (hR : R n σ g I a w) {key : Key} {e : KE} (hl : Live (σ.k key).ch) (h1 : e.idv = (σ.k key).idv) (h2 : (σ.k key).cv < e.cv) (h3 : chEsz e.ch = chEsz (σ.k key).ch)
    (hk : Keeps (fun b o => ¬ g.F key b o) w w') : Evo σ.k g w I (σ.setK key e).k g w' I where
  cv u := by by_cases hu : u = key; subst hu; rw [setK_same]; omega; rw [setK_other _ _ hu]; exact Nat.le_refl _
  idv u := by by_cases hu : u = key; subst hu; rw [setK_same]; omega; rw [setK_other _ _ hu]; exact Nat.le_refl _
  foot u hc hlu b o hf := by
    by_cases hu : u = key
    · subst hu; rw [setK_same] at hc; omega
    · rw [setK_other _ _ hu]
      exact ⟨.inl ⟨hlu, hf⟩, hk.cell (fun hh => hR.sep u key hlu hl hu b o hf hh) (live_cell hR hlu hf)⟩
  head u hc := by
    by_cases hu : u = key
    · subst hu; rw [setK_same]; exact ⟨rfl, h3⟩
    · rw [setK_other _ _ hu]; exact ⟨rfl, rfl⟩
  imm b o h := ⟨h, hk.cell (fun hh => hR.imm key hl b o hh h) (hR.iwf b o h)⟩
theorem R.write (hR : R n σ g I a w) {key : Key} {e : KE} (hl : Live (σ.k key).ch) (h1 : e.idv = (σ.k key).idv) (h2 : (σ.k key).cv < e.cv) (h3 : chEsz e.ch = chEsz (σ.k key).ch)
    (hk : Keeps (fun b o => ¬ g.F key b o) w w') (hch : ChR (σ.setK key e).k g w' I key e.ch) : R n (σ.setK key e) g I a w' := by
  have ev := evo_write hR hl h1 h2 h3 hk
  have live : ∀ u, Live ((σ.setK key e).k u).ch → Live (σ.k u).ch := by
    intro u hu
    by_cases huk : u = key
    · subst huk; exact hl
    · rwa [setK_other _ _ huk] at hu
  refine ⟨hR.size, hR.nd, fun t => ev.ent (hR.slots t), fun u => ?_, fun u v hu hv huv => hR.sep u v (live u hu) (live v hv) huv, fun u hu => hR.imm u (live u hu), fun b o hi => ?_, hR.x.step (hk.weaken fun b o ha hf => hR.x.frm key hl b o hf ha) (fun u hu => .inl ⟨live u hu, rfl, rfl⟩) (fun _ _ h => .inl h)⟩
  · by_cases huk : u = key
    · subst huk; rw [setK_same]; exact hch
    · rw [setK_other _ _ huk]
      refine ChR.keep ev hk (fun hlu b o hf hh => hR.sep u key hlu hl huk b o hf hh) rfl rfl (hR.chs u)
  · obtain ⟨v, hv⟩ := hR.iwf b o hi
    exact ⟨v, (ev.imm b o hi).2.trans hv⟩

/-- a step without a value -/
theorem end_skip {tr : Tr} (hd : dstOk n.np n.nt o = true) (hR : R n σ g I a w') (hK : ∀ σ' tr' g' I' a' w'', Q σ' tr' → R n σ' g' I' a' w'' → (∀ b o, I b o → I' b o) → Keeps (Im n I) w' w'' → K a' w'')
    (hrun : (execOp a.eval o).run P w = .ok .skip w') (h : (put o.dst .und).wp cf σ tr Q) : Goal P o a w K Qm := by
  refine goal_skip hrun ?_
  unfold put at h
  cases hds : o.dst with
  | none =>
    simp only [hds] at h ⊢
    exact hK _ _ g I _ _ h hR (fun _ _ h => h) (Keeps.refl _ _)
  | some d =>
    simp only [hds] at h ⊢
    exact hK _ _ g I _ _ h (hR.put (dst_ok hd hds).1 (e := .und) rfl) (fun _ _ h => h) (Keeps.refl _ _)

theorem op_store (hΓ : CtxOk Γ P) (hd : dstOk n.np n.nt o = true) (hR : R n σ g I a w) (hK : Post P n I w Q K) {t : TypeId} {x y : Operand} (hop : o.op = .store t x y)
    (h : (opStep Γ f o).wp cf σ tr Q) : Goal P o a w K Qm := by
  simp only [opStep, hop] at h
  obtain ⟨ti, -, hty, h⟩ := tyOf_wp hΓ h
  obtain ⟨e, t1, he, h⟩ := rd_wp hR h
  obtain ⟨ev, t2, hev, h⟩ := rd_wp hR h
  obtain ⟨ls, hls, h⟩ := ofOpt_wp h
  have hvals := entCells hev hls
  have hvl := hvals.len
  split at h
  · rename_i key m r off _ _
    obtain ⟨h3, h⟩ := h
    obtain ⟨hmS, hm1, hm2⟩ := he
    have hid := Nat.eq_of_beq_eq_true h3
    split at h
    · rename_i old hc
      obtain ⟨hb, h⟩ := h
      simp only [Bool.and_eq_true] at hb
      have hb1 : ls.length = ti.lts.length := Nat.eq_of_beq_eq_true hb.1
      have hb2 : off + ls.length ≤ old.length := Nat.le_of_ble_eq_true hb.2
      have hch := hR.chs key
      rw [hc] at hch
      obtain ⟨b, oo, c, el, fz, hh, hblk, hsz, hfz, hF, hl⟩ := hch
      obtain ⟨b', o', hx, ha⟩ := hm2 hid
      rw [hc, hh] at ha
      simp only [addrIn, Option.some.injEq, Prod.mk.injEq] at ha
      obtain ⟨rfl, rfl⟩ := ha
      simp only [Array.length_toList] at hvl
      obtain ⟨c', hrun, hc'⟩ := run_store_op (P := P) hty hop hx hblk (by omega) (by omega) hvals.single (fun j hj => by have := hfz (off + j) (by omega); rwa [← Nat.add_assoc] at this)
      have hcs : c'.size = c.size := by
        have := congrArg List.length hc'
        simp only [Array.length_toList, List.length_append, List.length_take, List.length_drop] at this
        omega
      have hkeep : Keeps (fun b'' o'' => ¬ g.F key b'' o'') w (World.put w b c' el fz) := by
        refine put_keeps hblk hcs fun o'' ho'' => ?_
        have hno : ¬ (oo ≤ o'' ∧ o'' < oo + old.length) := fun hh => ho'' ((hF b o'').2 ⟨rfl, hh⟩)
        rw [← Array.getElem?_toList, ← Array.getElem?_toList, hc']
        by_cases hlt : o'' < oo + off
        · rw [List.append_assoc, List.getElem?_append_left (by simp; omega), List.getElem?_take_of_lt hlt]
        · rw [List.getElem?_append_right (by simp; omega), List.getElem?_drop]
          congr 1
          simp
          omega
      have hlive : Live (σ.k key).ch := by rw [hc]; trivial
      let e' : KE := ⟨.box (old.take off ++ retype ti.lts ls ++ old.drop (off + ls.length)), (σ.k key).idv, (σ.k key).cv + 1⟩
      have hev' := evo_write (e := e') hR hlive rfl (Nat.lt_succ_self _) (by rw [hc]; rfl) hkeep
      have hlen' : (retype ti.lts ls).length = ls.length := (retype_ok (g := g) (w := w) (I := I) σ.k hvals (lts := ti.lts)).len.symm.trans (by simpa using hvl)
      have hR' : R n (σ.setK key e') g I a (World.put w b c' el fz) := by
        refine hR.write (e := e') hlive rfl (Nat.lt_succ_self _) (by rw [hc]; rfl) hkeep ?_
        have hlenN : (old.take off ++ retype ti.lts ls ++ old.drop (off + ls.length)).length = old.length := by
          simp only [List.length_append, List.length_take, List.length_drop, hlen']; omega
        refine ⟨b, oo, c', el, fz, hh, put_block hblk, by rw [hlenN, hcs]; exact hsz, by rw [hlenN]; exact hfz, by rw [hlenN]; exact hF, ?_⟩
        rw [hlenN]
        have hl2 := hev'.lfs (((hl.take off).app (retype_ok _ hvals (lts := ti.lts))).app (hl.drop (off + ls.length)))
        have e1 : (c'.toList.drop oo).take old.length = ((c.toList.drop oo).take old.length).take off ++ (a.eval y).cells.toList ++ ((c.toList.drop oo).take old.length).drop (off + ls.length) := by
          rw [hc']
          apply List.ext_getElem?
          intro i
          by_cases hi : i < old.length
          · rw [List.getElem?_take_of_lt hi, List.getElem?_drop]
            by_cases h1 : i < off
            · rw [List.append_assoc, List.getElem?_append_left (by simp; omega), List.getElem?_take_of_lt (by omega), List.append_assoc, List.getElem?_append_left (by simp; omega), List.getElem?_take_of_lt h1, List.getElem?_take_of_lt hi, List.getElem?_drop]
            · by_cases h2 : i < off + ls.length
              · rw [List.append_assoc, List.getElem?_append_right (by simp; omega), List.getElem?_append_left (by simp; omega), List.append_assoc, List.getElem?_append_right (by simp; omega), List.getElem?_append_left (by simp; omega)]
                congr 1
                simp
                omega
              · rw [List.getElem?_append_right (by simp; omega), List.getElem?_drop, List.getElem?_append_right (by simp; omega), List.getElem?_drop, List.getElem?_take_of_lt (by simp; omega), List.getElem?_drop]
                congr 1
                simp
                omega
          · rw [List.getElem?_eq_none (by simp; omega), List.getElem?_eq_none (by simp; omega)]
        rw [e1]
        exact hl2
      refine end_skip hd hR' (fun σ' tr' g' I' a' w'' q1 q2 q3 q4 => hK σ' tr' g' I' a' w'' q1 q2 q3 (Keeps.trans (fun _ _ h => h) (hkeep.weaken fun b o hi hf => hi.elim (hR.imm key hlive b o hf) (hR.x.frm key hlive b o hf)) q4)) hrun h
    · rename_i es0 ms0 rows0 hc0
      obtain ⟨hb, h⟩ := h
      simp only [Bool.and_eq_true] at hb
      have hb1 : ls.length = ti.lts.length := Nat.eq_of_beq_eq_true hb.1
      have hb2 : off + ls.length ≤ es0.length := Nat.le_of_ble_eq_true hb.2
      obtain ⟨σ1, I1, tr1, m', ds, hR1, ev1, hm', hl', hs1, h⟩ := absorb_wp hR hvals h
      obtain ⟨hid1, h⟩ := h
      have hid1 := Nat.eq_of_beq_eq_true hid1
      split at h
      · rename_i es ms rows hc
        obtain ⟨hb', h⟩ := h
        simp only [Bool.and_eq_true] at hb'
        have heq := LT.beqs_eq hb'.1
        subst heq
        have hr : r < rows.length := of_decide_eq_true hb'.2
        obtain ⟨ms', hms, h⟩ := ofOpt_wp h
        have he1 : Ent0R σ1.k g w I1 (.ptr key m r off) (a.eval x) := ev1.ent0 (x := .ptr key m r off) ⟨hmS, hm1, hm2⟩
        obtain ⟨b', o', hx, ha⟩ := he1.2.2 hid1
        have hch := hR1.chs key
        rw [hc] at hch ha
        obtain ⟨⟨hes, hlen, hown⟩, hno⟩ := hch
        rcases hown with ⟨-, rfl, -⟩ | ⟨b, cap, c, el, fz, hh, hcap, hmax, hblk, hsz, hfz, hF, hrows⟩
        · simp at hr
        rw [hh] at ha
        simp only [addrIn, chEsz, Option.some.injEq, Prod.mk.injEq, Nat.zero_add] at ha
        obtain ⟨rfl, rfl⟩ := ha
        simp only [Array.length_toList] at hvl
        have hdl := hl'.len
        simp only [Array.length_toList, List.length_take, List.length_drop] at hdl
        have hmul : (r + 1) * es0.length ≤ cap * es0.length := Nat.mul_le_mul_right _ (by omega)
        rw [Nat.add_mul, Nat.one_mul] at hmul
        obtain ⟨c', hrun, hc'⟩ := run_store_op (P := P) hty hop hx hblk (by omega) (by omega) hvals.single (fun j hj => hfz _ (by omega))
        have hcs : c'.size = c.size := by
          have := congrArg List.length hc'
          simp only [Array.length_toList, List.length_append, List.length_take, List.length_drop] at this
          omega
        have hin : ∀ j, j < (a.eval y).cells.size → c'[r * es0.length + off + j]? = (a.eval y).cells[j]? := by
          intro j hj
          rw [← Array.getElem?_toList, ← Array.getElem?_toList, hc', List.append_assoc, List.getElem?_append_right (by simp; omega), List.getElem?_append_left (by simp; omega)]
          congr 1
          simp
          omega
        have hout' : ∀ p, ¬ (r * es0.length + off ≤ p ∧ p < r * es0.length + off + ls.length) → c'[p]? = c[p]? := by
          intro p hp
          rw [← Array.getElem?_toList, ← Array.getElem?_toList, hc']
          by_cases hlt : p < r * es0.length + off
          · rw [List.append_assoc, List.getElem?_append_left (by simp; omega), List.getElem?_take_of_lt hlt]
          · rw [List.getElem?_append_right (by simp; omega), List.getElem?_drop]
            congr 1
            simp
            omega
        have hkeep : Keeps (fun b'' o'' => ¬ g.F key b'' o'') w (World.put w b c' el fz) := by
          refine put_keeps hblk hcs fun o'' ho'' => ?_
          have hno : ¬ o'' < c.size := fun hh => ho'' ((hF b o'').2 ⟨rfl, hh⟩)
          rw [Array.getElem?_eq_none (by omega), Array.getElem?_eq_none (by omega)]
        have hlive : Live (σ1.k key).ch := by rw [hc]; trivial
        let e' : KE := ⟨.row es0 ms' (rows.set r (setMany (rows.getD r []) off ds)), (σ1.k key).idv, (σ1.k key).cv + 1⟩
        have hev' := evo_write (e := e') hR1 hlive rfl (Nat.lt_succ_self _) (by rw [hc]; rfl) hkeep
        have hblk' := put_block (c' := c') hblk
        have hR' : R n (σ1.setK key e') g I1 a (World.put w b c' el fz) := by
          refine hR1.write (e := e') hlive rfl (Nat.lt_succ_self _) (by rw [hc]; rfl) hkeep ⟨⟨hes, by rw [List.length_set]; exact hlen, .inr ⟨b, cap, c', el, fz, by rw [List.length_set]; exact hh, by rw [List.length_set]; exact hcap, hmax, hblk', by rw [hcs]; exact hsz, by rw [hcs]; exact hfz, by rw [hcs]; exact hF, fun i hi => ?_⟩⟩, setModes_noO _ _ _ _ hno hm' hms⟩
          have hi' : i < rows.length := by simpa using hi
          have hmi : (i + 1) * es0.length ≤ cap * es0.length := Nat.mul_le_mul_right _ (by omega)
          rw [Nat.add_mul, Nat.one_mul] at hmi
          by_cases hir : i = r
          · subst hir
            rw [List.getElem_set_self]
            have e1 : rows.getD i [] = rows[i] := by simp [hi']
            rw [e1]
            obtain ⟨vs, hv1, hv2⟩ := (hrows i hi').vals
            have hvsl := hv1.len
            have hset := LeavesR.set (off := off) (ds := ds) (us := (a.eval y).cells.toList) hv1 (by rw [hdl.2, Nat.min_eq_left (by omega)]; exact hl') (by omega)
            have hset' := hset.mono (w' := World.put w b c' el fz) (I' := I1) (fun b o hb => ⟨hb, (hev'.imm b o hb).2⟩)
            refine RowR.of_vals hset' (CellsAt.of_block hblk' _ _ fun j hj => ?_)
            simp only [List.length_append, List.length_take, List.length_drop, Array.length_toList] at hj
            have hvs : ∀ j (hj : j < vs.length), c[i * es0.length + j]? = some vs[j] := fun j hj => by
              have := hv2.get j hj
              rwa [block_cell hblk] at this
            by_cases h1 : j < off
            · rw [hout' _ (by omega), List.getElem_append_left (by simp; omega), List.getElem_append_left (by simp; omega), List.getElem_take]
              exact hvs j (by omega)
            · by_cases h2 : j < off + ls.length
              · have := hin (j - off) (by omega)
                rw [show i * es0.length + off + (j - off) = i * es0.length + j from by omega] at this
                rw [this, List.getElem_append_left (by simp; omega), List.getElem_append_right (by simp; omega), Array.getElem_toList]
                rw [Array.getElem?_eq_getElem (by omega)]
                congr 2
                simp
                omega
              · rw [hout' _ (by omega), List.getElem_append_right (by simp; omega), List.getElem_drop, hvs j (by omega)]
                congr 2
                simp
                omega
          · rw [List.getElem_set_ne (Ne.symm hir)]
            have hdis : i * es0.length + es0.length ≤ r * es0.length ∨ r * es0.length + es0.length ≤ i * es0.length := by
              rcases Nat.lt_or_gt_of_ne hir with hlt | hlt
              · left; have := Nat.mul_le_mul_right es0.length (show i + 1 ≤ r by omega); rw [Nat.add_mul, Nat.one_mul] at this; exact this
              · right; have := Nat.mul_le_mul_right es0.length (show r + 1 ≤ i by omega); rw [Nat.add_mul, Nat.one_mul] at this; exact this
            have htop := RowR.top (A := fun b'' o'' => b'' = b ∧ i * es0.length ≤ o'' ∧ o'' < i * es0.length + es0.length) (fun _ _ h => h) (hrows i hi') (fun j hj => ⟨rfl, by omega, by omega⟩)
            refine RowR.mono (fun _ _ _ => trivial) ?_ (fun _ _ h => h) (fun b o hb => (hev'.imm b o hb).2) _ htop
            rintro b'' o'' ⟨rfl, h1, h2⟩
            rw [block_cell hblk', block_cell hblk]
            exact hout' _ (by omega)
        refine end_skip hd hR' (fun σ' tr' g' I' a' w'' q1 q2 q3 q4 => hK σ' tr' g' I' a' w'' q1 q2 (fun b o hb => q3 b o (ev1.imm b o hb).1) (Keeps.trans (fun b o hb => hb.imp (fun hb => (ev1.imm b o hb).1) id) (hkeep.weaken fun b o hi hf => hi.elim (fun hi => hR1.imm key hlive b o hf (ev1.imm b o hi).1) (hR1.x.frm key hlive b o hf)) q4)) hrun h
      · exact h.elim
    · exact h.elim
  · exact h.elim
end
end Go.E

namespace Go.E
open Go

section
variable {w : World} {I S A : Foot}
theorem RowR.foot : ∀ {es : List LT} {b o : Nat} {row : List T}, RowR w A S es b o row → ∀ j, j < es.length → A b (o + j)
  | [], b, o, row, h, j, hj => by simp at hj
  | e :: es, b, o, row, h, j, hj => by
    unfold RowR at h
    obtain ⟨d, rest, v, h1, h2, h3, h4, h5⟩ := h
    cases j with
    | zero => exact h2
    | succ j => have := RowR.foot h5 j (by simpa using hj); rwa [show o + 1 + j = o + (j + 1) from by omega] at this
theorem CellsAt.app : ∀ {vs us : List Value} {b o : Nat}, CellsAt w b o vs → CellsAt w b (o + vs.length) us → CellsAt w b o (vs ++ us)
  | [], us, b, o, _, h => by simpa using h
  | v :: vs, us, b, o, h, h' => ⟨h.1, CellsAt.app h.2 (by simpa [show o + 1 + vs.length = o + (vs.length + 1) from by omega] using h')⟩
theorem rows_cells {es : List LT} : ∀ (rows : List (List T)) (b o : Nat), (∀ i (hi : i < rows.length), RowR w A S es b (o + i * es.length) rows[i]) →
    ∃ news, news.length = rows.length * es.length ∧ RowsV w S es rows news ∧ CellsAt w b o news ∧ ∀ j, j < news.length → A b (o + j)
  | [], b, o, _ => ⟨[], by simp, trivial, trivial, fun j hj => by simp at hj⟩
  | r :: rs, b, o, h => by
    have h0 := h 0 (by simp)
    simp only [Nat.zero_mul, Nat.add_zero, List.getElem_cons_zero] at h0
    obtain ⟨vs, h1, h2⟩ := h0.vals
    obtain ⟨us, h3, h4, h5, h6⟩ := rows_cells rs b (o + es.length) fun i hi => by
      have := h (i + 1) (by simpa using hi)
      rw [show o + (i + 1) * es.length = o + es.length + i * es.length from by rw [Nat.add_mul]; omega] at this
      simpa using this
    have hl := h1.len.1
    refine ⟨vs ++ us, by simp [h3, hl, Nat.add_mul]; omega, ⟨by rw [← hl, List.take_left]; exact h1, by rw [← hl, List.drop_left]; exact h4⟩, h2.app (by rw [hl]; exact h5), fun j hj => ?_⟩
    by_cases hlt : j < es.length
    · exact h0.foot j hlt
    · have := h6 (j - es.length) (by simp at hj; omega)
      rwa [show o + es.length + (j - es.length) = o + j from by omega] at this
theorem leaf_cells {es : List LT} {v : Value} {rows : List (List T)} (h : LeafR w S (.sl es) v (.l rows)) :
    ∃ aa cap news, v = .slice aa rows.length cap ∧ rows.length ≤ cap ∧ rows.length ≤ maxCells ∧ news.length = rows.length * es.length ∧ RowsV w S es rows news ∧
      (rows = [] ∨ ∃ b o, aa = some ⟨b, o, none⟩ ∧ CellsAt w b o news ∧ ∀ j, j < news.length → S b (o + j)) := by
  unfold LeafR at h
  obtain ⟨aa, cap, rows', h1, rfl, h2, h3, h4⟩ := h
  cases h1
  rcases h4 with rfl | ⟨b, o, rfl, h4⟩
  · exact ⟨aa, cap, [], rfl, h2, h3, by simp, trivial, .inl rfl⟩
  · obtain ⟨news, h5, h6, h7, h8⟩ := rows_cells rows b o h4
    exact ⟨_, cap, news, rfl, h2, h3, h5, h6, .inr ⟨b, o, rfl, h7, h8⟩⟩
theorem Single.one {v : Value} (h : Single v) : v.oneCell' = true := by
  cases v <;> first | rfl | exact absurd rfl (h.1 _) | exact absurd rfl (h.2 _)
theorem LeavesR.single : ∀ {es : List LT} {vs : List Value} {ds : List T}, LeavesR w I es vs ds → ∀ v ∈ vs, Single v
  | [], [], [], _, v, hv => by cases hv
  | e :: es, v :: vs, d :: ds, h, u, hu => by
    rcases List.mem_cons.1 hu with rfl | hu
    · exact h.1.single
    · exact LeavesR.single h.2 u hu
  | [], _ :: _, _, h, _, _ => h.elim
  | [], [], _ :: _, h, _, _ => h.elim
  | _ :: _, [], _, h, _, _ => h.elim
  | _ :: _, _ :: _, [], h, _, _ => h.elim
theorem RowsV.single {es : List LT} : ∀ {rows : List (List T)} {cs : List Value}, cs.length = rows.length * es.length → RowsV w I es rows cs → ∀ v ∈ cs, Single v
  | [], cs, hn, _, v, hv => by
    have : cs = [] := List.length_eq_zero_iff.1 (by simpa using hn)
    subst this; cases hv
  | r :: rs, cs, hn, h, v, hv => by
    rw [← List.take_append_drop es.length cs] at hv
    rcases List.mem_append.1 hv with hv | hv
    · exact h.1.single v hv
    · refine RowsV.single ?_ h.2 v hv
      simp only [List.length_cons, Nat.add_mul, Nat.one_mul] at hn
      rw [List.length_drop]; omega
theorem LeavesR.flat {w' : World} {I' : Foot} : ∀ {es : List LT} {vs : List Value} {ds : List T}, flatLs es = true → LeavesR w I es vs ds → LeavesR w' I' es vs ds
  | [], [], [], _, _ => trivial
  | e :: es, v :: vs, d :: ds, hf, h => by
    unfold flatLs at hf
    simp only [List.all_cons, Bool.and_eq_true] at hf
    refine ⟨?_, LeavesR.flat hf.2 h.2⟩
    cases e with
    | sl _ => simp at hf
    | sc s => have h1 := h.1; unfold LeafR at h1 ⊢; exact h1
  | [], _ :: _, _, _, h => h.elim
  | [], [], _ :: _, _, h => h.elim
  | _ :: _, [], _, _, h => h.elim
  | _ :: _, _ :: _, [], _, h => h.elim
theorem RowsV.flat {w' : World} {I' : Foot} {es : List LT} (hf : flatLs es = true) : ∀ {rows : List (List T)} {cs : List Value}, RowsV w I es rows cs → RowsV w' I' es rows cs
  | [], _, _ => trivial
  | _ :: _, _, hh => ⟨hh.1.flat hf, RowsV.flat hf hh.2⟩
theorem bytes_rowsV : ∀ (l : List UInt8), RowsV w I [.sc (.int .u8)] (l.map fun b => [T.i b.toNat]) (l.map fun b => Value.int .u8 b.toNat)
  | [] => trivial
  | x :: xs => by
    refine ⟨⟨?_, trivial⟩, bytes_rowsV xs⟩
    unfold LeafR
    have hlt := UInt8.toNat_lt x
    refine ⟨_, rfl, rfl, ?_⟩
    simp only [IntKind.min, IntKind.max, IntKind.bits, IntKind.signed]
    constructor
    · simp
    · simp only [Bool.false_eq_true, if_false]; omega
end

section
variable {Γ : Ctx} {P : Program} {cf : FuncId → List Arg → R3 Ret}
variable {n : Fr} {σ : S} {g : Gh} {I : Foot} {a : Act} {w w' : World}
variable {o : Oper} {f : FuncId} {tr : Tr} {Q : S → Tr → Prop} {K : Act → World → Prop} {Qm : Exit → Act → World → Prop}

/-- what an append adds: the machine's source, the values; where the source lies -/
structure AppSrc (P : Program) (w : World) (S I : Foot) (size : Nat) (tx : TypeId) (es : List LT) (x : Value) (rows : List (List T)) (news : List Value) : Prop where
  src : Src P size tx x rows.length news w
  len : Builtin.lenOf x = Sem.pure rows.length
  vals : RowsV w I es rows news
  single : ∀ v ∈ news, Single v
  nn : news.length = rows.length * es.length
  place : (∃ s, x = .string s) ∨ rows = [] ∨ ∃ b o cap, x = .slice (some ⟨b, o, none⟩) rows.length cap ∧ CellsAt w b o news ∧ ∀ j, j < news.length → S b (o + j)

theorem LeafR.src {S : Foot} {es : List LT} {v : Value} {rows : List (List T)} {tx : TypeId} (hk : (∃ e', P.underlying tx = some (.slice e')) ∨ P.underlying tx = some .string) (h : LeafR w S (.sl es) v (.l rows))
    (hI : ∀ news, RowsV w S es rows news → RowsV w I es rows news) : ∃ news, AppSrc P w S I es.length tx es v rows news := by
  obtain ⟨aa, cap, news, rfl, h1, h2, h3, h4, h5⟩ := leaf_cells h
  have hs := h4.single h3
  refine ⟨news, ?_, rfl, hI _ h4, hs, h3, ?_⟩
  · have hone : ∀ u ∈ news, u.oneCell' = true := fun u hu => (hs u hu).one
    rcases h5 with rfl | ⟨b, o, rfl, h5, -⟩
    · have hn : news = [] := List.length_eq_zero_iff.1 (by simpa using h3)
      subst hn
      cases aa with
      | none => exact ⟨hk, fun _ => rfl, run_firstCells_none w _ _ _ _, run_firstCells_none w.drew _ _ _ _, h3, hone⟩
      | some ad => exact ⟨hk, fun _ => rfl, run_firstCells_some w _ _ _ _ _ [] h3 (fun j u hu => by simp at hu), run_firstCells_some w.drew _ _ _ _ _ [] h3 (fun j u hu => by simp at hu), h3, hone⟩
    · have hc : ∀ j u, news[j]? = some u → w.cell? (Addr.add ⟨b, o, none⟩ j) = some u := fun j u hu => by
        rw [addr_add]
        obtain ⟨hj, rfl⟩ := List.getElem?_eq_some_iff.1 hu
        exact h5.get j hj
      exact ⟨hk, fun _ => rfl, run_firstCells_some w _ _ _ _ _ news h3 hc, run_firstCells_some w.drew _ _ _ _ _ news h3 (by simpa using hc), h3, hone⟩
  · rcases h5 with rfl | ⟨b, o, rfl, h5, h6⟩
    · exact .inr (.inl rfl)
    · exact .inr (.inr ⟨b, o, cap, rfl, h5, h6⟩)

theorem appendSrc_wp (hR : R n σ g I a w) {es : List LT} {lx : Leaf} {v : Value} {k : List (List T) → List Dep → Prog} {tx : TypeId} {tk : TI} (hl : LfR σ.k g w I lx v) (htk : TyOk Γ P tx tk)
    (hkind : (isSliceK tk.kind || isStrK tk.kind) = true) (h : (appendSrc es lx k).wp cf σ tr Q) :
    ∃ rows deps news tr', AppSrc P w (depFoot σ.k g I deps) I es.length tx es v rows news ∧ (k rows deps).wp cf σ tr' Q := by
  have hkd : (∃ e', P.underlying tx = some (.slice e')) ∨ P.underlying tx = some .string := by
    rw [Bool.or_eq_true] at hkind
    rcases hkind with h1 | h1
    · obtain ⟨e, he⟩ := isSliceK_eq h1
      exact .inl ⟨e, (kind_slice htk he).1⟩
    · exact .inr (kind_str htk (isStrK_eq h1))
  have hview : ∀ (h : (viewSl lx fun es' rows deps => .chk (LT.beqs es es' && (flatLs es || deps.isEmpty)) (k rows deps)).wp cf σ tr Q),
      ∃ rows deps news tr', AppSrc P w (depFoot σ.k g I deps) I es.length tx es v rows news ∧ (k rows deps).wp cf σ tr' Q := by
    intro h
    obtain ⟨es', rows, deps, tr', ⟨hb, h⟩, h2, h3, h4⟩ := viewSl_wp hR hl h
    simp only [Bool.and_eq_true, Bool.or_eq_true] at hb
    have := LT.beqs_eq hb.1
    subst this
    obtain ⟨news, hn⟩ := LeafR.src (P := P) (I := I) hkd h2 fun news hv => by
      rcases hb.2 with hf | hf
      · exact hv.flat hf
      · have : deps = [] := by simpa using hf
        subst this
        exact hv.mono fun b o hb => ⟨hb.elim id fun ⟨d, hd, _⟩ => (nomatch hd), rfl⟩
    exact ⟨rows, deps, news, tr', hn, h⟩
  obtain ⟨st, lt, d⟩ := lx
  unfold appendSrc at h
  simp only at h
  split at h
  · obtain ⟨hs, s, e1, hv⟩ := hl
    cases e1
    obtain ⟨hb, h⟩ := h
    have := LT.beqs_eq hb
    subst this
    obtain ⟨str, rfl, rfl, hsz⟩ := hv
    have hlen : (bytesRows str).length = str.size := by unfold bytesRows; rw [List.length_map]; rfl
    refine ⟨_, _, byteCells str, _, ⟨⟨hkd, fun _ => ?_, ?_, ?_, ?_, ?_⟩, ?_, ?_, ?_, ?_, .inl ⟨str, rfl⟩⟩, h⟩
    · show _ = Result.ok (bytesRows str).length _
      rw [hlen]; rfl
    · show (Builtin.firstCells 1 (bytesRows str).length (.string str)).run P w = _
      rw [hlen]; exact firstCells_string (P := P) str w
    · show (Builtin.firstCells 1 (bytesRows str).length (.string str)).run P w.drew = _
      rw [hlen]; exact firstCells_string (P := P) str w.drew
    · show _ = (bytesRows str).length * _
      rw [hlen, byteCells_length]; simp
    · intro u hu
      obtain ⟨_, _, rfl⟩ := List.mem_map.1 hu
      rfl
    · show _ = Sem.pure (bytesRows str).length
      rw [hlen]; rfl
    · exact bytes_rowsV _
    · intro u hu
      obtain ⟨_, _, rfl⟩ := List.mem_map.1 hu
      exact ⟨fun _ h => (nomatch h), fun _ h => (nomatch h)⟩
    · show _ = (bytesRows str).length * _
      rw [hlen, byteCells_length]; simp
  · obtain ⟨-, -, rfl, rfl⟩ := hl
    obtain ⟨news, hn⟩ := LeafR.src (P := P) (I := I) (w := w) (S := depFoot σ.k g I []) (es := es) (rows := []) (v := .slice none 0 0) hkd (by unfold LeafR; exact ⟨none, 0, [], rfl, rfl, Nat.le_refl _, Nat.zero_le _, .inl rfl⟩) (fun _ _ => trivial)
    exact ⟨_, _, news, _, hn, h⟩
  · exact hview h

end
end Go.E

namespace Go.E
open Go

section
variable {n : Fr} {σ : S} {g : Gh} {I : Foot} {a : Act} {w w' : World}
/-- a chunk is made anew, of memory that is new or that nobody holds ('Z') -/
theorem evo_renew (hR : R n σ g I a w) (k : Key) (e : KE) (h : Value) (F Z : Foot) (h1 : (σ.k k).idv < e.idv) (h2 : (σ.k k).cv < e.cv) (hk : Keeps (fun b o => ¬ Z b o) w w')
    (hz : ∀ u, Live (σ.k u).ch → Foot.apart (g.F u) Z) (hzi : Foot.apart Z I) :
    Evo σ.k g w I (σ.setK k e).k (g.set k h F) w' I where
  cv u := by by_cases hu : u = k; subst hu; rw [setK_same]; omega; rw [setK_other _ _ hu]; exact Nat.le_refl _
  idv u := by by_cases hu : u = k; subst hu; rw [setK_same]; omega; rw [setK_other _ _ hu]; exact Nat.le_refl _
  foot u hc hl b o hf := by
    by_cases hu : u = k
    · subst hu; rw [setK_same] at hc; omega
    · rw [setK_other _ _ hu, Gh.set_F' _ _ _ hu]
      exact ⟨.inl ⟨hl, hf⟩, hk.cell (fun hh => hz u hl b o hf hh) (live_cell hR hl hf)⟩
  head u hc := by
    by_cases hu : u = k
    · subst hu; rw [setK_same] at hc; omega
    · rw [setK_other _ _ hu, Gh.set_h' _ _ _ hu]
      exact ⟨rfl, rfl⟩
  imm b o h := ⟨h, hk.cell (fun hh => hzi b o hh h) (hR.iwf b o h)⟩
theorem R.renew (hR : R n σ g I a w) (k : Key) (e : KE) (h : Value) (F Z : Foot) (h1 : (σ.k k).idv < e.idv) (h2 : (σ.k k).cv < e.cv) (hk : Keeps (fun b o => ¬ Z b o) w w')
    (hz : ∀ u, Live (σ.k u).ch → Foot.apart (g.F u) Z) (hzi : Foot.apart Z I) (hza : Foot.apart Z n.A) (hkp : ¬ isPar n.np k)
    (hF : ∀ b o, F b o → Z b o ∨ w.heap.size ≤ b) (hch : ChR (σ.setK k e).k (g.set k h F) w' I k e.ch) : R n (σ.setK k e) (g.set k h F) I a w' := by
  have ev := evo_renew hR k e h F Z h1 h2 hk hz hzi
  have hap : ∀ u, Live (σ.k u).ch → ∀ b o, g.F u b o → F b o → False := fun u hu b o hfu hf => by
    rcases hF b o hf with hh | hh
    · exact hz u hu b o hfu hh
    · have := cell_lt (live_cell hR hu hfu); omega
  refine ⟨hR.size, hR.nd, fun t => ev.ent (hR.slots t), fun u => ?_, fun u v hu hv huv => ?_, fun u hu => ?_, fun b o hi => ?_, hR.x.step (hk.weaken fun b o ha hh => hza b o hh ha) (fun u hu => ?_) (fun _ _ h => .inl h)⟩
  · by_cases huk : u = k
    · subst huk; rw [setK_same]; exact hch
    · rw [setK_other _ _ huk]
      exact ChR.keep ev hk (fun hl b o hf hh => hz u hl b o hf hh) (Gh.set_h' _ _ _ huk) (Gh.set_F' _ _ _ huk) (hR.chs u)
  · intro b o hfu hfv
    by_cases huk : u = k
    · subst huk
      have hvk : v ≠ u := fun e => huv e.symm
      rw [Gh.set_F] at hfu
      rw [Gh.set_F' _ _ _ hvk] at hfv
      rw [setK_other _ _ hvk] at hv
      exact hap v hv b o hfv hfu
    · rw [Gh.set_F' _ _ _ huk] at hfu
      rw [setK_other _ _ huk] at hu
      by_cases hvk : v = k
      · subst hvk
        rw [Gh.set_F] at hfv
        exact hap u hu b o hfu hfv
      · rw [Gh.set_F' _ _ _ hvk] at hfv
        rw [setK_other _ _ hvk] at hv
        exact hR.sep u v hu hv huv b o hfu hfv
  · intro b o hfu hi
    by_cases huk : u = k
    · subst huk
      rw [Gh.set_F] at hfu
      rcases hF b o hfu with hh | hh
      · exact hzi b o hh hi
      · have := cell_lt (hR.iwf b o hi); omega
    · rw [Gh.set_F' _ _ _ huk] at hfu
      rw [setK_other _ _ huk] at hu
      exact hR.imm u hu b o hfu hi
  · obtain ⟨v, hv⟩ := hR.iwf b o hi
    exact ⟨v, ((ev.imm b o hi).2).trans hv⟩
  · by_cases huk : u = k
    · subst huk
      refine .inr ⟨hkp, ?_⟩
      rw [Gh.set_F]
      intro b o hf ha
      rcases hF b o hf with hh | hh
      · exact hza b o hh ha
      · have := cell_lt (hR.x.awf b o ha); omega
    · rw [setK_other _ _ huk] at hu
      exact .inl ⟨hu, Gh.set_h' _ _ _ huk, Gh.set_F' _ _ _ huk⟩
/-- a chunk is let go -/
theorem R.gone (hR : R n σ g I a w) (k : Key) : R n (σ.setK k ⟨.gone, (σ.k k).idv + 1, (σ.k k).cv + 1⟩) g I a w ∧
    Evo σ.k g w I (σ.setK k ⟨.gone, (σ.k k).idv + 1, (σ.k k).cv + 1⟩).k g w I := by
  have hk : Keeps (fun b o => True) w w := Keeps.refl _ _
  have hg : g.set k (g.h k) (g.F k) = g := by
    unfold Gh.set
    have e1 : (fun u => if u = k then g.h k else g.h u) = g.h := by funext u; split <;> simp_all
    have e2 : (fun u => if u = k then g.F k else g.F u) = g.F := by funext u; split <;> simp_all
    rw [e1, e2]
  have ev : Evo σ.k g w I (σ.setK k ⟨.gone, (σ.k k).idv + 1, (σ.k k).cv + 1⟩).k g w I := by
    have := evo_new hR k ⟨.gone, (σ.k k).idv + 1, (σ.k k).cv + 1⟩ (g.h k) (g.F k) (by simp) (by simp) hk
    rwa [hg] at this
  have live : ∀ u, Live ((σ.setK k ⟨.gone, (σ.k k).idv + 1, (σ.k k).cv + 1⟩).k u).ch → Live (σ.k u).ch ∧ u ≠ k := by
    intro u hu
    by_cases huk : u = k
    · subst huk; rw [setK_same] at hu; exact hu.elim
    · rw [setK_other _ _ huk] at hu; exact ⟨hu, huk⟩
  refine ⟨⟨hR.size, hR.nd, fun t => ev.ent (hR.slots t), fun u => ?_, fun u v hu hv huv => hR.sep u v (live u hu).1 (live v hv).1 huv, fun u hu => hR.imm u (live u hu).1, hR.iwf, hR.x.step (Keeps.refl _ _) (fun u hu => .inl ⟨(live u hu).1, rfl, rfl⟩) (fun _ _ h => .inl h)⟩, ev⟩
  by_cases huk : u = k
  · subst huk; rw [setK_same]; trivial
  · rw [setK_other _ _ huk]
    exact ChR.keep ev hk (fun _ _ _ _ => trivial) rfl rfl (hR.chs u)
end

section
variable {Γ : Ctx} {P : Program} {cf : FuncId → List Arg → R3 Ret}
variable {n : Fr} {σ : S} {g : Gh} {I : Foot} {a : Act} {w w' : World}
variable {o : Oper} {f : FuncId} {tr : Tr} {Q : S → Tr → Prop} {K : Act → World → Prop} {Qm : Exit → Act → World → Prop}
/-- the end of a step that turns rows: the memory is new, or it was let go ('Z') -/
theorem end_row2 {d0 : Nat} {es : List LT} {ms : List M} {rows : List (List T)} {v : Value} {F Z : Foot} (hdst : o.dst = some d0) (hd : dstOk n.np n.nt o = true) (hR : R n σ g I a w) (hK : Post P n I w Q K)
    (hk : Keeps (fun b o => ¬ Z b o) w w') (hz : ∀ u, Live (σ.k u).ch → Foot.apart (g.F u) Z) (hzi : Foot.apart Z I) (hza : Foot.apart Z n.A) (hF : ∀ b o, F b o → Z b o ∨ w.heap.size ≤ b)
    (hrun : (execOp a.eval o).run P w = .ok (.value v) w') (hv : Single v) (hm : noO ms) (hrow : RowOwn w' I es rows v F) (h : (mkRow d0 es ms rows).wp cf σ tr Q) : Goal P o a w K Qm := by
  refine goal_value hrun ?_
  rw [hdst]
  obtain ⟨hdn, hkp⟩ := dst_ok hd hdst
  let e : KE := ⟨.row es ms rows, (σ.k [d0 + 2000000]).idv + 1, (σ.k [d0 + 2000000]).cv + 1⟩
  have hR' := hR.renew [d0 + 2000000] e v F Z (by simp [e]) (by simp [e]) hk hz hzi hza (hkp n.big _) hF
    (by simp only [e, ChR, Gh.set_h, Gh.set_F]; exact ⟨hrow, hm⟩)
  refine hK _ _ _ I _ _ h (hR'.put hdn (e := .one ⟨.al [d0 + 2000000] ((σ.k [d0 + 2000000]).idv + 1), .sl es, .l []⟩) ⟨hv, trivial, ?_, fun _ => ?_⟩) (fun _ _ h => h) (hk.weaken fun b o hi hh => hi.elim (hzi b o hh) (hza b o hh))
  · rw [setK_same]; exact Nat.le_refl _
  · rw [Gh.set_h]
end
end Go.E

namespace Go.E
open Go

section
variable {Γ : Ctx} {P : Program} {cf : FuncId → List Arg → R3 Ret}
variable {n : Fr} {σ : S} {g : Gh} {I : Foot} {a : Act} {w w' : World}
variable {o : Oper} {f : FuncId} {tr : Tr} {Q : S → Tr → Prop} {K : Act → World → Prop} {Qm : Exit → Act → World → Prop}

theorem run_append_oper {ρ : Operand → Value} {t tx : TypeId} {s x : Operand} {v : Value} (hop : o.op = .call ⟨.builtin .append, #[s, x], #[t, tx]⟩)
    (h : (Builtin.append_ #[t, tx] o.type #[ρ s, ρ x]).run P w = .ok v w') : (execOp ρ o).run P w = .ok (.value v) w' := by
  have e1 : execOp ρ o = (Builtin.append_ #[t, tx] o.type #[ρ s, ρ x]).bind (fun v => Sem.pure (Next.value v)) := by
    unfold execOp
    simp only [hop, resolve, invoke, builtin, List.map_toArray, List.map_cons, List.map_nil]
    rfl
  rw [e1, Sem.run_bind', h]
  rfl
theorem holds_cells {b o' : Nat} {news : List Value} (h0 : news ≠ []) (h : CellsAt w b o' news) : Room.holdsV w ⟨b, o', none⟩ news.length = true := by
  have hl : 0 < news.length := List.length_pos_iff.2 h0
  have h1 := h.get (news.length - 1) (by omega)
  have := holdsV_of_last w b o' news.length hl (by
    unfold cellAt at h1
    rw [h1]; rfl) news.length (Nat.le_refl _)
  exact this
theorem holds_block {b : Nat} {c : Array Value} {el : TypeId} {fz : Nat × Nat} (h : Block w b c el fz) {k : Nat} (hk : k ≤ c.size) : Room.holdsV w ⟨b, 0, none⟩ k = true := by
  have h1 : w.heap[b]? = some (.cells c el fz) := h
  simp [Room.holdsV, World.shape?, h1, hk]
theorem nextslicecap_le {need old : Nat} (h : old < need) : Builtin.nextslicecap need old ≤ 2 * need + 512 := by
  unfold Builtin.nextslicecap
  split
  · omega
  · split
    · omega
    · rw [growBy_four]
      split
      · omega
      · split
        · omega
        · split
          · omega
          · split <;> omega
/-- an append that grows -/
theorem append_grow (hΓ : CtxOk Γ P) (hd : dstOk n.np n.nt o = true) (hR : R n σ g I a w) (hK : Post P n I w Q K) {d0 : Nat} (hdst : o.dst = some d0)
    {t tx el : TypeId} {s x : Operand} (hop : o.op = .call ⟨.builtin .append, #[s, x], #[t, tx]⟩) {te : TI} (hut : P.underlying t = some (.slice el)) (hte : TyOk Γ P el te) (hne : te.lts ≠ [])
    {tk : TI} (htk : TyOk Γ P tx tk) (hkind : (isSliceK tk.kind || isStrK tk.kind) = true)
    {base : Option Addr} {sCap : Nat} {rows new : List (List T)} {olds news : List Value} {S' : Foot} (hv : a.eval s = .slice base rows.length sCap)
    (hold : (Builtin.firstCells te.lts.length rows.length (.slice base rows.length sCap)).run P w.drew = .ok olds.toArray w.drew) (hol : olds.length = rows.length * te.lts.length) (hov : RowsV w I te.lts rows olds)
    (hs : AppSrc P w S' I te.lts.length tx te.lts (a.eval x) new news)
    (hg : sCap < rows.length + new.length) (h : (appendFin d0 te.lts rows new).wp cf σ tr Q) : Goal P o a w K Qm := by
  obtain ⟨inf, hi1, hi2, hi3, hi4, hi5, z, hz, hzs⟩ := hte.info
  have hpos : 0 < te.lts.length := List.length_pos_iff.2 hne
  have hb0 : 0 < inf.bytes := by omega
  obtain ⟨dx, hdx, hdi⟩ : ∃ d, P.underlying tx = some d ∧ ∀ k, d ≠ .int k := by
    rcases hs.src.kind with ⟨e', h1⟩ | h1
    · exact ⟨_, h1, fun k hk => (nomatch hk)⟩
    · exact ⟨_, h1, fun k hk => (nomatch hk)⟩
  have hzl : z.cells.size = te.lts.length := by
    have := (zero_lfs (κ := σ.k) (g := g) (w := w) (I := I) hzs).len
    simpa using this
  rw [← hi2] at hold
  have hsrc := hs.src
  rw [← hi2] at hsrc
  obtain ⟨hb, h⟩ := h
  simp only [Bool.and_eq_true] at hb
  have hle : te.lts.length ≤ 1000 := Nat.le_of_ble_eq_true hb.1
  have hnl : (rows.length + new.length) * te.lts.length ≤ maxRow := of_decide_eq_true hb.2
  have hnn : (rows.length + new.length) ≤ (rows.length + new.length) * te.lts.length := Nat.le_mul_of_pos_right _ hpos
  unfold maxRow at hnl
  have hp : Builtin.nextslicecap (rows.length + new.length) sCap * inf.bytes ≤ 281474976710656 := by
    have h1 := nextslicecap_le hg
    have h2 : Builtin.nextslicecap (rows.length + new.length) sCap * inf.bytes ≤ (2 * (rows.length + new.length) + 512) * (24 * te.lts.length) := Nat.mul_le_mul h1 (by omega)
    have h3 : (2 * (rows.length + new.length) + 512) * (24 * te.lts.length) = 48 * ((rows.length + new.length) * te.lts.length) + 12288 * te.lts.length := by
      rw [Nat.add_mul]
      congr 1
      · rw [Nat.mul_assoc, Nat.mul_comm 24, ← Nat.mul_assoc, ← Nat.mul_assoc, Nat.mul_assoc 2]
        omega
      · omega
    omega
  have h63 : ((rows.length + new.length : Nat) : Int) ≤ 9223372036854775807 := by omega
  have hrun := run_append_grow_src (P := P) w t tx o.type el inf z hut hi1 hz base rows.length sCap olds hold (a.eval x) new.length news hsrc hg h63 hp
  have hge := grownCap_ge w (rows.length + new.length) sCap el
  have hcsz : ((olds ++ news).toArray ++ Builtin.zeroCells z.cells (grownCap w (rows.length + new.length) sCap el - (rows.length + new.length))).size = grownCap w (rows.length + new.length) sCap el * te.lts.length := by
    rw [Array.size_append, size_zeroCells, hzl]
    simp only [List.size_toArray, List.length_append, hol, hs.nn]
    rw [← Nat.add_mul, ← Nat.add_mul]
    congr 1
    omega
  have hk : Keeps (fun _ _ => True) w (World.pushed w.drew (.cells ((olds ++ news).toArray ++ Builtin.zeroCells z.cells (grownCap w (rows.length + new.length) sCap el - (rows.length + new.length))) el)) :=
    Keeps.trans (fun _ _ h => h) (keeps_drawn w (w.drawn + 1)) (keeps_push _ _)
  refine end_row (b := w.heap.size) (cap := grownCap w (rows.length + new.length) sCap el) (el := el) (fz := (0, 0)) hdst hd hR hK hk (Nat.le_refl _) (pushed_block w.drew _ el (0, 0)) (fun o' ho' => by omega)
    (run_append_oper hop (by rw [hv, hrun, List.length_append]; rfl)) hne (by rw [List.length_append]; unfold maxCells; omega) (by rw [List.length_append]; exact hge) trivial hcsz (noO_F _) ?_ h
  rw [Array.toList_append]
  exact (RowsV.app hov hol hs.vals).tail

theorem mayShare_ok {size : Nat} {es : List LT} {S' : Foot} {tx : TypeId} {v : Value} {new : List (List T)} {news : List Value} (hs : AppSrc P w S' I size tx es v new news) (hsz : size = es.length) (hpos : 0 < size) (hn : 0 < new.length) {base : Option Addr} {m : Nat}
    (hb : base = none ∧ m = 0 ∨ ∃ b c el fz cap, base = some ⟨b, 0, none⟩ ∧ Block w b c el fz ∧ c.size = cap * size ∧ m ≤ cap ∧ (∀ o, o ≤ c.size → ¬ (fz.1 ≤ o ∧ o < fz.2)) ∧ ∀ o, o < c.size → ¬ S' b o) :
    (Builtin.mayShare size m new.length base v).runT P w #[] = (.ok false w, #[]) := by
  have hx : ∀ b o', CellsAt w b o' news → Room.holdsV w ⟨b, o', none⟩ (new.length * size) = true := fun b o' hc => by
    have hnn := hs.nn
    rw [← hsz] at hnn
    rw [← hnn]
    refine holds_cells (fun h0 => ?_) hc
    rw [h0] at hnn
    have := Nat.mul_pos hn hpos
    simp at hnn
    omega
  rcases hb with ⟨rfl, rfl⟩ | ⟨b, c, el, fz, cap, rfl, hblk, hc, hm, hfz, hS⟩
  · rcases hs.place with ⟨str, rfl⟩ | rfl | ⟨b, o', cap, rfl, h1, h2⟩
    · exact runT_mayShare_string w size 0 new.length none str fun a h => (nomatch h)
    · simp at hn
    · exact runT_mayShare_nil_cells w size new.length _ _ (hx _ _ h1)
  · have hle : m * size ≤ c.size := by rw [hc]; exact Nat.mul_le_mul_right _ hm
    have hle2 : m / 2 * size ≤ c.size := Nat.le_trans (Nat.mul_le_mul_right _ (Nat.div_le_self _ _)) hle
    have hv := holds_block hblk hle
    have hf : w.frozen? ((⟨b, 0, none⟩ : Addr).add (m / 2 * size)) = false := by
      rw [addr_add]
      have h1 : w.heap[b]? = some (.cells c el fz) := hblk
      have h2 := hfz _ hle2
      simp only [World.frozen?, h1, Nat.zero_add]
      simpa using h2
    rcases hs.place with ⟨str, rfl⟩ | rfl | ⟨b', o', cap', rfl, h1, h2⟩
    · exact runT_mayShare_string w size m new.length _ str fun a h => by cases h; exact ⟨hv, hf⟩
    · simp at hn
    · have hnn : 0 < news.length := by
        rw [hs.nn, ← hsz]; exact Nat.mul_pos hn hpos
      have hne : b ≠ b' := by
        rintro rfl
        have h3 := h1.get 0 hnn
        rw [block_cell hblk] at h3
        obtain ⟨h4, -⟩ := Array.getElem?_eq_some_iff.1 h3
        exact hS _ h4 (h2 0 hnn)
      have hx := hx _ _ h1
      simp [-Sem.runT_eq, Builtin.mayShare, Room.Sem.bind_def, frozen, Sem.bind, Sem.runT, Room.Sem.runT_bind, Room.runT_holdsCells', Room.Sem.runT_pure', hv, hx, hf, hne]

theorem run_append_room_own {t tx ty el : TypeId} {inf : TypeInfo} (ht : P.underlying t = some (.slice el)) (hi : P.info? el = some inf) {b sLen sCap m : Nat} {x : Value} {news : List Value} (hs : Src P inf.size tx x m news w)
    (hroom : sLen + m ≤ sCap) {c : Array Value} {el' : TypeId} {fz : Nat × Nat} (hblk : Block w b c el' fz) (hcs : sLen * inf.size + news.length ≤ c.size) (hsg : ∀ v ∈ news, Single v) (hfz : ∀ o, o ≤ c.size → ¬ (fz.1 ≤ o ∧ o < fz.2)) :
    ∃ c', (Builtin.append_ #[t, tx] ty #[.slice (some ⟨b, 0, none⟩) sLen sCap, x]).run P w = .ok (.slice (some ⟨b, 0, none⟩) (sLen + m) sCap) (World.put w b c' el' fz) ∧
      c'.toList = c.toList.take (sLen * inf.size) ++ news ++ c.toList.drop (sLen * inf.size + news.length) := by
  obtain ⟨c', hst, hc'⟩ := run_storeCells (P := P) news 0 (sLen * inf.size) c w hblk (by simpa using hcs) hsg (fun j hj => hfz _ (by omega))
  refine ⟨c', ?_, by simpa using hc'⟩
  rcases hs.kind with ⟨e', hk⟩ | hk <;> simp [Builtin.append_, run_underlying ht, run_underlying hk, sizeOf, typeInfo, hi, hs.len, hroom, hs.cells, Addr.add_lit, hst]

theorem op_append (hΓ : CtxOk Γ P) (hd : dstOk n.np n.nt o = true) (hR : R n σ g I a w) (hK : Post P n I w Q K) {c : Call} (hop : o.op = .call c) (hc : c.callee = .builtin .append)
    (h : (opStep Γ f o).wp cf σ tr Q) : Goal P o a w K Qm := by
  simp only [opStep, hop, hc] at h
  obtain ⟨d0, hdst, h⟩ := ofOpt_wp h
  obtain ⟨es, t1, hes, h⟩ := rdAll_wp hR h
  split at h
  · rename_i s x t tx hty
    obtain ⟨ti, -, hti, h⟩ := tyOf_wp hΓ h
    obtain ⟨tk, -, htk, h⟩ := tyOf_wp hΓ h
    split at h
    · rename_i el lts hk hlts
      obtain ⟨hkind, h⟩ := h
      obtain ⟨hut, te, hte, hl', hne⟩ := kind_slice hti hk
      rw [hlts] at hl'
      simp only [List.cons.injEq, LT.sl.injEq, and_true] at hl'
      subst hl'
      have htok := hΓ.ty _ _ hte
      obtain ⟨inf, hi1, hi2, hi3, hi4, -⟩ := htok.info
      have hpos : 0 < te.lts.length := List.length_pos_iff.2 hne
      -- the two operands
      obtain ⟨os, ox, hargs⟩ : ∃ os ox, c.args = #[os, ox] ∧ EntR σ.k g w I s (a.eval os) ∧ EntR σ.k g w I x (a.eval ox) := by
        cases hl : c.args.toList with
        | nil => rw [hl] at hes; exact hes.elim
        | cons p l1 =>
          rw [hl] at hes
          cases l1 with
          | nil => exact hes.2.elim
          | cons q l2 =>
            cases l2 with
            | nil => exact ⟨p, q, Array.toList_inj.1 (by simpa using hl), hes.1, hes.2.1⟩
            | cons _ _ => exact hes.2.2.elim
      obtain ⟨hargs, hes1, hes2⟩ := hargs
      have hop' : o.op = .call ⟨.builtin .append, #[os, ox], #[t, tx]⟩ := by
        rw [hop]
        obtain ⟨ca, args, ctys⟩ := c
        simp only at hc hargs hty
        subst hc; subst hargs
        have : ctys = #[t, tx] := Array.toList_inj.1 (by simpa using hty)
        rw [this]
      unfold appendStep at h
      obtain ⟨ls, rfl, hls, h⟩ := one1_wp hes1 h
      obtain ⟨lx, rfl, hlx, h⟩ := one1_wp hes2 h
      obtain ⟨new, deps, news, t2, hs, h⟩ := appendSrc_wp hR hlx htk hkind h
      have hs' := hs.src
      rw [← hi2] at hs'
      obtain ⟨lst, llt, ld⟩ := ls
      simp only at h
      cases lst with
      | sc => exact h.elim
      | sn _ => exact h.elim
      | og => exact h.elim
      | dead => exact h.elim
      | nl => 
        obtain ⟨-, -, hv, -⟩ := hls
        by_cases hn : new.length = 0
        · have hnil : new = [] := List.length_eq_zero_iff.1 hn
          subst hnil
          obtain ⟨hb9, h⟩ := h
          have hnews : news = [] := List.length_eq_zero_iff.1 (by simpa using hs.nn)
          subst hnews
          refine end_row2 (v := .slice none 0 0) (F := fun _ _ => False) (Z := fun _ _ => False) (w' := w) hdst hd hR hK (Keeps.refl _ _) (fun _ _ _ _ _ h => h) (fun _ _ h _ => h) (fun _ _ h _ => h) (fun _ _ h => h.elim)
            (run_append_oper hop' (by rw [hv]; exact run_append_nothing (P := P) w t tx o.type el inf hut hi1 none 0 0 (Nat.le_refl _) _ hs'))
            ⟨fun _ h => (nomatch h), fun _ h => (nomatch h)⟩ (noO_F _) ⟨hne, Nat.zero_le _, .inl ⟨rfl, rfl, fun _ _ h => h⟩⟩ h
        · refine append_grow hΓ hd hR hK hdst hop' hut htok hne htk hkind (base := none) (sCap := 0) (rows := []) (olds := []) (news := news) hv (run_firstCells_none _ _ _ _ _) (by simp) trivial hs (by simp; omega) h
      | al key m =>
        obtain ⟨hdep, hid, h⟩ := h
        cases hch0 : (σ.k key).ch with
        | box _ => rw [hch0] at h; exact h.elim
        | fz _ _ => rw [hch0] at h; exact h.elim
        | gone => rw [hch0] at h; exact h.elim
        | row es' ms' rows =>
          rw [hch0] at h
          obtain ⟨hbq, h⟩ := h
          have := LT.beqs_eq hbq
          subst this
          have hlive : Live (σ.k key).ch := by rw [hch0]; trivial
          have hch := hR.chs key
          rw [hch0] at hch
          obtain ⟨⟨-, hlen, hown⟩, hno⟩ := hch
          obtain ⟨-, -, hh1, hh2⟩ := hls
          have hv : a.eval os = g.h key := hh2 (Nat.eq_of_beq_eq_true hid)
          obtain ⟨hR1, ev1⟩ := hR.gone key
          have hlive1 : ∀ u, Live ((σ.setK key ⟨.gone, (σ.k key).idv + 1, (σ.k key).cv + 1⟩).k u).ch → Live (σ.k u).ch ∧ u ≠ key := by
            intro u hu
            by_cases huk : u = key
            · subst huk; rw [setK_same] at hu; exact hu.elim
            · rw [setK_other _ _ huk] at hu; exact ⟨hu, huk⟩
          have hzap : ∀ u, Live ((σ.setK key ⟨.gone, (σ.k key).idv + 1, (σ.k key).cv + 1⟩).k u).ch → Foot.apart (g.F u) (g.F key) := fun u hu => hR.sep u key (hlive1 u hu).1 hlive (hlive1 u hu).2
          have hzi := hR.imm key hlive
          rcases hown with ⟨hh, rfl, hF⟩ | ⟨b, cap, cc, el', fz, hh, hcap, hmax, hblk, hsz, hfz, hF, hrows⟩
          · rw [hh] at hv
            by_cases hn : new.length = 0
            · have hnil : new = [] := List.length_eq_zero_iff.1 hn
              subst hnil
              obtain ⟨hb9, h⟩ := h
              have hnews : news = [] := List.length_eq_zero_iff.1 (by simpa using hs.nn)
              subst hnews
              refine end_row2 (v := .slice none 0 0) (F := fun _ _ => False) (Z := fun _ _ => False) (w' := w) hdst hd hR1 hK (Keeps.refl _ _) (fun _ _ _ _ _ h => h) (fun _ _ h _ => h) (fun _ _ h _ => h) (fun _ _ h => h.elim)
                (run_append_oper hop' (by rw [hv]; exact run_append_nothing (P := P) w t tx o.type el inf hut hi1 none 0 0 (Nat.le_refl _) _ hs'))
                ⟨fun _ h => (nomatch h), fun _ h => (nomatch h)⟩ (noO_F _) ⟨hne, Nat.zero_le _, .inl ⟨rfl, rfl, fun _ _ h => h⟩⟩ h
            · refine append_grow hΓ hd hR1 hK hdst hop' hut htok hne htk hkind (base := none) (sCap := 0) (rows := []) (olds := []) (news := news) hv (run_firstCells_none _ _ _ _ _) (by simp) trivial hs (by simp; omega) h
          · rw [hh] at hv
            obtain ⟨olds, ho1, ho2, ho3, -⟩ := rows_cells (A := fun _ _ => True) (S := I) (w := w) (es := te.lts) rows b 0 (by simpa using hrows)
            have hmulc : rows.length * te.lts.length ≤ cc.size := by rw [hsz]; exact Nat.mul_le_mul_right _ hcap
            by_cases hroom : rows.length + new.length ≤ cap
            · have hmul2 : (rows.length + new.length) * te.lts.length ≤ cc.size := by rw [hsz]; exact Nat.mul_le_mul_right _ hroom
              have hmul3 := hmul2
              rw [Nat.add_mul, ← hs.nn] at hmul3
              obtain ⟨hb9, h⟩ := h
              simp only [Bool.and_eq_true] at hb9
              have hb9 := of_decide_eq_true hb9.2
              unfold maxRow at hb9
              obtain ⟨c', hrun, hc'⟩ := run_append_room_own (P := P) (ty := o.type) hut hi1 hs' hroom hblk (by rw [hi2]; exact hmul3) hs.single hfz
              rw [hi2] at hc'
              have hcs : c'.size = cc.size := by
                have := congrArg List.length hc'
                simp only [Array.length_toList, List.length_append, List.length_take, List.length_drop] at this
                omega
              have htake : cc.toList.take (rows.length * te.lts.length) = olds := by
                apply List.ext_getElem?
                intro i
                by_cases hi : i < rows.length * te.lts.length
                · rw [List.getElem?_take_of_lt hi]
                  have h1 := ho3.get i (by omega)
                  rw [block_cell hblk, Nat.zero_add] at h1
                  rw [Array.getElem?_toList, h1, List.getElem?_eq_getElem (by omega)]
                · rw [List.getElem?_eq_none (by simp; omega), List.getElem?_eq_none (by omega)]
              have hk : Keeps (fun b o => ¬ g.F key b o) w (World.put w b c' el' fz) := put_keeps hblk hcs fun o'' ho'' => by
                have : ¬ o'' < cc.size := fun hlt => ho'' ((hF b o'').2 ⟨rfl, hlt⟩)
                rw [Array.getElem?_eq_none (by omega), Array.getElem?_eq_none (by omega)]
              have hrv : RowsV (World.put w b c' el' fz) I te.lts (rows ++ new) c'.toList := by
                rw [hc', htake]
                exact ((RowsV.app ho2 ho1 hs.vals).tail).mono fun b o hb => ⟨hb, hk.cell (fun hh => hzi b o hh hb) (hR.iwf b o hb)⟩
              have hblk' := put_block (c' := c') hblk
              have h1 : rows.length + new.length ≤ (rows.length + new.length) * te.lts.length := Nat.le_mul_of_pos_right _ hpos
              refine end_row2 (v := .slice (some ⟨b, 0, none⟩) (rows.length + new.length) cap) (F := g.F key) (Z := g.F key) hdst hd hR1 hK hk hzap hzi (hR.x.frm key hlive) (fun _ _ h => .inl h) (run_append_oper hop' (by rw [hv]; exact hrun)) ⟨fun _ h => (nomatch h), fun _ h => (nomatch h)⟩ (noO_F _)
                ⟨hne, by rw [List.length_append]; unfold maxCells; omega, .inr ⟨b, cap, c', el', fz, by rw [List.length_append], by rw [List.length_append]; exact hroom, hmax, hblk', by rw [hcs]; exact hsz, by rw [hcs]; exact hfz, by rw [hcs]; exact hF, fun i hi => ?_⟩⟩ h
              have := RowsV.row hblk' (rows ++ new) 0 (by simpa using hrv) (by rw [hcs, List.length_append]; omega) i hi
              simpa using this
            · have hdisj : ∀ o', o' < cc.size → ¬ depFoot σ.k g I deps b o' := by
                intro o' ho' hdf
                have hfk := (hF b o').2 ⟨rfl, ho'⟩
                rcases hdf with hi | ⟨d, hd1, hd2, hd3⟩
                · exact hzi b o' hfk hi
                · have hne' : d.1 ≠ key := by
                    intro he
                    have : (deps.any fun d => keyEq d.1 key) = true := List.any_eq_true.2 ⟨d, hd1, by rw [he]; exact keyEq_self _⟩
                    rw [this] at hdep
                    simp at hdep
                  exact hR.sep d.1 key hd2 hlive hne' b o' hd3 hfk
              have hold := run_firstCells_some (P := P) w.drew te.lts.length rows.length ⟨b, 0, none⟩ rows.length cap olds ho1 (fun j u hu => by
                obtain ⟨hj, rfl⟩ := List.getElem?_eq_some_iff.1 hu
                rw [addr_add]
                exact ho3.get j hj)
              refine append_grow hΓ hd hR1 hK hdst hop' hut htok hne htk hkind hv hold ho1 ho2 hs (by omega) h
    · exact h.elim
  · exact h.elim
end
end Go.E

namespace Go.E
open Go

section
variable {Γ : Ctx} {P : Program} {cf : FuncId → List Arg → R3 Ret}
variable {n : Fr} {σ : S} {g : Gh} {I : Foot} {a : Act} {w w' : World}
variable {o : Oper} {f : FuncId} {tr : Tr} {Q : S → Tr → Prop} {K : Act → World → Prop} {Qm : Exit → Act → World → Prop}

theorem op_slice_cut (hΓ : CtxOk Γ P) (hd : dstOk n.np n.nt o = true) (hR : R n σ g I a w) (hK : Post P n I w Q K) {t : TypeId} {ti : TI} {x : Operand} {lo hi : Option Operand} {d0 : Nat} (hop : o.op = .slice t x lo hi none)
    (hdst : o.dst = some d0) (hty : TyOk Γ P t ti) {e : Ent} (he : EntR σ.k g w I e (a.eval x)) {elo ehi : Option Ent}
    (hlo : ∀ x, lo = some x → ∃ e, elo = some e ∧ EntR σ.k g w I e (a.eval x)) (hlo' : lo = none → elo = none)
    (hhi : ∀ x, hi = some x → ∃ e, ehi = some e ∧ EntR σ.k g w I e (a.eval x)) (hhi' : hi = none → ehi = none)
    {cut : Bool} (h : (sliceStep ti cut d0 e elo ehi).wp cf σ tr Q) : Goal P o a w K Qm := by
  cases cut with
  | false => exact op_slice_read hΓ hd hR hK hop hdst hty he hlo hlo' hhi hhi' h
  | true =>
  unfold sliceStep at h
  obtain ⟨l, rfl, hl, h⟩ := one1_wp he h
  simp only at h
  split at h
  · -- a string: the same as when it is read
    refine op_slice_read (cf := cf) (tr := tr) hΓ hd hR hK hop hdst hty he hlo hlo' hhi hhi' ?_
    unfold sliceStep one1
    simp only
    rename_i h1 h2
    rw [h1, h2]
    exact h
  · obtain ⟨st, lt, d⟩ := l
    cases st with
    | al key m =>
      cases elo with
      | some _ =>
        obtain ⟨es, rows, deps, t', h, hleaf, h1, h2⟩ := viewSl_wp hR hl h
        obtain ⟨hk, h⟩ := h
        obtain ⟨lv, hv', hb1, hb2, hb3, hb4, h⟩ := bounds_wp hR lo hi hlo hlo' hhi hhi' h
        exact h.elim
      | none =>
        have hl0 := hl
        obtain ⟨hs, hsl, hm1, hm2⟩ := hl
        unfold viewSl at h
        simp only at h
        cases lt with
        | sc _ => exact hsl.elim
        | sl es0 =>
        simp only at h
        obtain ⟨hid, h⟩ := h
        have hv := hm2 (Nat.eq_of_beq_eq_true hid)
        cases hch0 : (σ.k key).ch with
        | box _ => rw [hch0] at h; exact h.elim
        | gone => rw [hch0] at h; exact h.elim
        | fz es rows =>
          rw [hch0] at h
          obtain ⟨hk, h⟩ := h
          obtain ⟨lv, hv', hb1, hb2, hb3, hb4, h⟩ := bounds_wp hR lo hi hlo hlo' hhi hhi' h
          simp only [cond_true] at h
          unfold Prog.wp at h
          simp only [hch0] at h
          exact h.elim
        | row es ms rows =>
          rw [hch0] at h
          obtain ⟨hk, h⟩ := h
          split at hk
          · rename_i tes htes
            simp only [Bool.and_eq_true] at hk
            obtain ⟨hk, hlen⟩ := hk
            have hlen := Nat.eq_of_beq_eq_true hlen
            obtain ⟨el, hk⟩ := isSliceK_eq hk
            obtain ⟨hu, te, hte, hl', -⟩ := kind_slice hty hk
            rw [htes] at hl'
            simp only [List.cons.injEq, LT.sl.injEq, and_true] at hl'
            subst hl'
            have hch := hR.chs key
            rw [hch0] at hch
            have hleaf : LeafR w (fun b o => I b o ∨ g.F key b o) (.sl es) (a.eval x) (.l rows) := by
              rw [hv]; exact hch.1.leaf (fun _ _ h => .inl h) (fun _ _ h => .inr h)
            obtain ⟨aa, cap, hx, hcap, -, -⟩ := leafSl hleaf
            obtain ⟨lv, hv', hb1, hb2, hb3, hb4, h⟩ := bounds_wp hR lo hi hlo hlo' hhi hhi' h
            have hb3 := of_decide_eq_true hb3
            have hb4 := of_decide_eq_true hb4
            have hlv : lv = 0 := by
              cases lo with
              | none => rcases hb1 with ⟨-, h⟩ | ⟨k, h⟩
                        · exact h
                        · simp at h
              | some y => obtain ⟨e', h1, -⟩ := hlo y rfl; cases h1
            subst hlv
            have hrun := run_slice_sl hop hx hu (run_sizeOf (w := w) (hΓ.ty _ _ hte)) hb1 hb2 hb3 hb4 hcap
            simp only [cond_true] at h
            unfold Prog.wp at h
            simp only [hch0] at h
            obtain ⟨hR1, ev1⟩ := hR.gone key
            have hlive : Live (σ.k key).ch := by rw [hch0]; trivial
            have hlive1 : ∀ u, Live ((σ.setK key ⟨.gone, (σ.k key).idv + 1, (σ.k key).cv + 1⟩).k u).ch → Live (σ.k u).ch ∧ u ≠ key := by
              intro u hu
              by_cases huk : u = key
              · subst huk; rw [setK_same] at hu; exact hu.elim
              · rw [setK_other _ _ huk] at hu; exact ⟨hu, huk⟩
            have hzap : ∀ u, Live ((σ.setK key ⟨.gone, (σ.k key).idv + 1, (σ.k key).cv + 1⟩).k u).ch → Foot.apart (g.F u) (g.F key) := fun u hu => hR.sep u key (hlive1 u hu).1 hlive (hlive1 u hu).2
            obtain ⟨⟨hes, hmx, hown⟩, hno⟩ := hch
            have hlt : (rows.take hv'.toNat).length = hv'.toNat := by rw [List.length_take]; omega
            refine end_row2 (cf := cf) (F := g.F key) (Z := g.F key) (w' := w) hdst hd hR1 hK (Keeps.refl _ _) hzap (hR.imm key hlive) (hR.x.frm key hlive) (fun _ _ h => .inl h) hrun ⟨fun _ h => (nomatch h), fun _ h => (nomatch h)⟩ hno
              ⟨hes, by omega, ?_⟩ h
            rcases hown with ⟨hh, rfl, hF⟩ | ⟨b, cap', cc, el', fz, hh, hcap', hmax, hblk, hsz, hfz, hF, hrows⟩
            · left
              rw [hv, hh] at hx
              simp only [Value.slice.injEq] at hx
              obtain ⟨rfl, h5, rfl⟩ := hx
              have : hv'.toNat = 0 := by simp at hb3; omega
              simp [this, hF]
            · right
              rw [hv, hh] at hx
              simp only [Value.slice.injEq] at hx
              obtain ⟨rfl, h5, rfl⟩ := hx
              refine ⟨b, cap', cc, el', fz, ?_, by omega, hmax, hblk, hsz, hfz, hF, fun i hi => ?_⟩
              · rw [hlt]
                by_cases hc0 : cap' = 0 <;> simp [hc0, addr_add]
              · rw [List.getElem_take]
                exact hrows i (by omega)
          · cases hk
    | _ =>
      obtain ⟨es, rows, deps, t', h, hleaf, h1, h2⟩ := viewSl_wp hR hl h
      obtain ⟨hk, h⟩ := h
      obtain ⟨lv, hv', hb1, hb2, hb3, hb4, h⟩ := bounds_wp hR lo hi hlo hlo' hhi hhi' h
      exact h.elim
theorem op_slice (hΓ : CtxOk Γ P) (hd : dstOk n.np n.nt o = true) (hR : R n σ g I a w) (hK : Post P n I w Q K) {t : TypeId} {x : Operand} {lo hi : Option Operand} (hop : o.op = .slice t x lo hi none)
    (h : (opStep Γ f o).wp cf σ tr Q) : Goal P o a w K Qm := by
  simp only [opStep, hop] at h
  obtain ⟨d0, hdst, h⟩ := ofOpt_wp h
  obtain ⟨ti, -, hti, h⟩ := tyOf_wp hΓ h
  obtain ⟨e, t1, he, h⟩ := rd_wp hR h
  cases lo with
  | none =>
    cases hi with
    | none => exact op_slice_cut hΓ hd hR hK hop hdst hti he (fun _ h => (nomatch h)) (fun _ => rfl) (fun _ h => (nomatch h)) (fun _ => rfl) h
    | some y =>
      obtain ⟨e2, t2, he2, h⟩ := rd_wp hR h
      exact op_slice_cut hΓ hd hR hK hop hdst hti he (fun _ h => (nomatch h)) (fun _ => rfl) (fun _ h => by cases h; exact ⟨_, rfl, he2⟩) (fun h => (nomatch h)) h
  | some z =>
    obtain ⟨e3, t3, he3, h⟩ : ∃ e3 t3, EntR σ.k g w I e3 (a.eval z) ∧ ∃ ehi, (∀ x, hi = some x → ∃ e, ehi = some e ∧ EntR σ.k g w I e (a.eval x)) ∧ (hi = none → ehi = none) ∧ (sliceStep ti (Γ.cut f d0) d0 e (some e3) ehi).wp cf σ t3 Q := by
      cases hi with
      | none =>
        obtain ⟨e2, t2, he2, h⟩ := rd_wp hR h
        exact ⟨e2, t2, he2, none, fun _ h => (nomatch h), fun _ => rfl, h⟩
      | some y =>
        obtain ⟨e2, t2, he2, h⟩ := rd_wp hR h
        obtain ⟨e4, t4, he4, h⟩ := rd_wp hR h
        exact ⟨e2, t4, he2, some e4, fun _ h => by cases h; exact ⟨_, rfl, he4⟩, fun h => (nomatch h), h⟩
    obtain ⟨ehi, h1, h2, h⟩ := h
    exact op_slice_cut hΓ hd hR hK hop hdst hti he (fun _ h => by cases h; exact ⟨_, rfl, he3⟩) (fun h => (nomatch h)) h1 h2 h
end
end Go.E

namespace Go.E
open Go

/-! what goes in, what comes out: the contract of a function -/
def AlR (g0 : Gh) (w : World) (I : Foot) (i j : Nat) : AL → Value → Prop
  | .sc s d, v => ScR s v d
  | .fz es rows, v => LeafR w I (.sl es) v (.l rows)
  | .own es ms rows, v => v = g0.h [i, j] ∧ RowOwn w I es rows v (g0.F [i, j]) ∧ noO ms
  | .nl _, v => v = .slice none 0 0
def AlsR (g0 : Gh) (w : World) (I : Foot) (i : Nat) : Nat → List AL → List Value → Prop
  | _, [], [] => True
  | j, a :: as, v :: vs => AlR g0 w I i j a v ∧ AlsR g0 w I i (j + 1) as vs
  | _, _, _ => False
def RptR (w : World) (I : Foot) (lts : List LT) (row : List T) (v : Value) : Prop := ∃ b o, v = .pointer (some ⟨b, o, none⟩) ∧ RowR w I I lts b o row
def CapsR (w : World) (I : Foot) : List Arg → List Value → Prop
  | [], [] => True
  | a :: as, v :: vs => (∃ lts row, a = .rpt lts row ∧ RptR w I lts row v) ∧ CapsR w I as vs
  | _, _ => False
/-- the cells of a variable -/
def BoxAt (w : World) (h : Value) (F : Foot) (m : Nat) (cs : List Value) : Prop := ∃ b o c el fz, h = .pointer (some ⟨b, o, none⟩) ∧ Block w b c el fz ∧ o + m ≤ c.size ∧
    (∀ j, j < m → ¬ (fz.1 ≤ o + j ∧ o + j < fz.2)) ∧ (∀ b' o', F b' o' ↔ b' = b ∧ o ≤ o' ∧ o' < o + m) ∧ cs = (c.toList.drop o).take m
theorem BoxAt.own {κ : Key → KE} {g : Gh} {w : World} {I : Foot} {ls : List Leaf} {h : Value} {F : Foot} {cs : List Value} (hb : BoxAt w h F ls.length cs) (hl : LfsR κ g w I ls cs) : BoxOwn κ g w I ls h F := by
  obtain ⟨b, o, c, el, fz, h1, h2, h3, h4, h5, rfl⟩ := hb
  exact ⟨b, o, c, el, fz, h1, h2, h3, h4, h5, hl⟩
theorem BoxOwn.at {κ : Key → KE} {g : Gh} {w : World} {I : Foot} {ls : List Leaf} {h : Value} {F : Foot} (hb : BoxOwn κ g w I ls h F) : ∃ cs, BoxAt w h F ls.length cs ∧ LfsR κ g w I ls cs := by
  obtain ⟨b, o, c, el, fz, h1, h2, h3, h4, h5, hl⟩ := hb
  exact ⟨_, ⟨b, o, c, el, fz, h1, h2, h3, h4, h5, rfl⟩, hl⟩
def BxR (g0 : Gh) (w : World) (I : Foot) (i : Nat) (als : List AL) (v : Value) : Prop := v = g0.h [i, bxJ] ∧ ∃ cs, BoxAt w (g0.h [i, bxJ]) (g0.F [i, bxJ]) als.length cs ∧ AlsR g0 w I i 0 als cs
def ArgR (g0 : Gh) (w : World) (I : Foot) (i : Nat) : Arg → Value → Prop
  | .one al, v => AlR g0 w I i 0 al v
  | .agg als, v => ∃ cs, v = .agg cs ∧ AlsR g0 w I i 0 als cs.toList
  | .rpt lts row, v => RptR w I lts row v
  | .bx als, v => BxR g0 w I i als v
  | .fn f caps, v => ∃ vs, v = .func (.func f) #[] vs ∧ CapsR w I caps vs.toList
def ArgsR (g0 : Gh) (w : World) (I : Foot) : Nat → List Arg → List Value → Prop
  | _, [], [] => True
  | i, a :: as, v :: vs => ArgR g0 w I i a v ∧ ArgsR g0 w I (i + 1) as vs
  | _, _, _ => False
def Held (args : List Arg) (k : Key) : Prop := Live (findCh k (chsAll 0 args)).ch
structure Pre (g0 : Gh) (I A : Foot) (args : List Arg) (w : World) (vs : Array Value) : Prop where
  rel : ArgsR g0 w I 0 args vs.toList
  sep : ∀ k k', Held args k → Held args k' → k ≠ k' → Foot.apart (g0.F k) (g0.F k')
  imm : ∀ k, Held args k → Foot.apart (g0.F k) I
  frm : ∀ k, Held args k → Foot.apart (g0.F k) A
  iwf : ∀ b o, I b o → ∃ v, cellAt w b o = some v
  awf : ∀ b o, A b o → ∃ v, cellAt w b o = some v

def RlR (g0 g' : Gh) (w : World) (I : Foot) : RL → Value → Prop
  | .sc s d, v => ScR s v d
  | .fz es rows, v => LeafR w I (.sl es) v (.l rows)
  | .own k es ms rows, v => v = g'.h k ∧ RowOwn w I es rows v (g'.F k) ∧ noO ms
  | .nl _, v => v = .slice none 0 0
  | .par i j, v => v = g0.h [i, j]
  | .org, _ => False
def RlsR (g0 g' : Gh) (w : World) (I : Foot) : List RL → List Value → Prop
  | [], [] => True
  | a :: as, v :: vs => Single v ∧ RlR g0 g' w I a v ∧ RlsR g0 g' w I as vs
  | _, _ => False
def ReR (g0 g' : Gh) (w : World) (I : Foot) : RE → Value → Prop
  | .one l, v => Single v ∧ RlR g0 g' w I l v
  | .agg ls, v => ∃ cs, v = .agg cs ∧ RlsR g0 g' w I ls cs.toList
  | .bx k ls, v => v = g'.h k ∧ ∃ cs, BoxAt w (g'.h k) (g'.F k) ls.length cs ∧ RlsR g0 g' w I ls cs
  | .none, _ => False
def ResR (g0 g' : Gh) (w : World) (I : Foot) : List RE → List Value → Prop
  | [], [] => True
  | a :: as, v :: vs => ReR g0 g' w I a v ∧ ResR g0 g' w I as vs
  | _, _ => False
def retKeys (r : Ret) : List Key := r.rs.flatMap keysOfR ++ r.bxs.flatMap keysOfB
def oneV (vs : List Value) : Value := match vs with | [v] => v | vs => .tuple vs.toArray
structure RetR (g0 : Gh) (I A : Foot) (args : List Arg) (w : World) (ret : Ret) (g' : Gh) (I' : Foot) (w' : World) (v : Value) : Prop where
  res : ∃ vs, v = oneV vs ∧ ResR g0 g' w' I' ret.rs vs
  own : ∀ i j es ms rows, ownOf ret i j = some (es, ms, rows) → RowOwn w' I' es rows (g0.h [i, j]) (g0.F [i, j]) ∧ noO ms ∧ Foot.apart (g0.F [i, j]) I'
  nd : (retKeys ret).Nodup
  sep : ∀ k k', k ∈ retKeys ret → k' ∈ retKeys ret → k ≠ k' → Foot.apart (g'.F k) (g'.F k')
  sepP : ∀ k i j es ms rows, k ∈ retKeys ret → ownOf ret i j = some (es, ms, rows) → Foot.apart (g'.F k) (g0.F [i, j])
  box : ∀ i ls, bxOf ret i = some ls → (∃ cs, BoxAt w' (g0.h [i, bxJ]) (g0.F [i, bxJ]) ls.length cs ∧ RlsR g0 g' w' I' ls cs) ∧ Foot.apart (g0.F [i, bxJ]) I'
  sepB : ∀ k i ls, k ∈ retKeys ret → bxOf ret i = some ls → Foot.apart (g'.F k) (g0.F [i, bxJ])
  imm : ∀ k, k ∈ retKeys ret → Foot.apart (g'.F k) I'
  frm : ∀ k, k ∈ retKeys ret → Foot.apart (g'.F k) A
  inc : ∀ b o, I b o → I' b o
  ia : ∀ b o, I' b o → A b o → I b o
  iwf : ∀ b o, I' b o → ∃ v, cellAt w' b o = some v
  keeps : Keeps (fun b o => I b o ∨ A b o) w w'
/-- a function's contract at arguments -/
def FnOk (P : Program) (f : FuncId) (args : List Arg) (r : R3 Ret) : Prop :=
  ∀ (g0 : Gh) (I A : Foot) (w : World) (vs : Array Value), Pre g0 I A args w vs → Calls P f vs w fun
    | .returned v, w' => ∃ ret g' I', r = .ok ret ∧ RetR g0 I A args w ret g' I' w' v
    | .panicked _, _ => False
    | .outgrown, _ => False

/-! the start -/
theorem findEnt_in : ∀ (args : List Arg) (i t : Nat), findEnt t (entsIn i args) = if h : i ≤ t ∧ t < i + args.length then entIn t (args[t - i]'(by omega)) else .junk
  | [], i, t => by
    have : ¬ (i ≤ t ∧ t < i + 0) := by omega
    simp only [entsIn, findEnt, List.length_nil, this, dite_false]
  | a :: as, i, t => by
    simp only [entsIn, findEnt]
    cases hb : Nat.beq t i with
    | true =>
      have := Nat.eq_of_beq_eq_true hb
      subst this
      simp
    | false =>
      have hne : t ≠ i := fun h => by subst h; simp at hb
      simp only [cond_false]
      rw [findEnt_in as (i + 1) t]
      by_cases h : i + 1 ≤ t ∧ t < i + 1 + as.length
      · have h' : i ≤ t ∧ t < i + (a :: as).length := by simp only [List.length_cons]; omega
        rw [dif_pos h, dif_pos h']
        obtain ⟨k, rfl⟩ : ∃ k, t = i + 1 + k := ⟨t - (i + 1), by omega⟩
        have e1 : i + 1 + k - (i + 1) = k := by omega
        have e2 : i + 1 + k - i = k + 1 := by omega
        simp only [e1, e2, List.getElem_cons_succ]
      · have h' : ¬ (i ≤ t ∧ t < i + (a :: as).length) := by simp only [List.length_cons]; omega
        rw [dif_neg h, dif_neg h']
section
variable {g0 : Gh} {w : World} {I : Foot} {κ : Key → KE}
theorem ArgsR.len : ∀ {i : Nat} {args : List Arg} {vs : List Value}, ArgsR g0 w I i args vs → vs.length = args.length
  | _, [], [], _ => rfl
  | _, _ :: _, _ :: _, h => by simp [ArgsR.len h.2]
  | _, [], _ :: _, h => h.elim
  | _, _ :: _, [], h => h.elim
theorem ArgsR.get : ∀ {i : Nat} {args : List Arg} {vs : List Value}, ArgsR g0 w I i args vs → ∀ t (h : t < args.length) (h' : t < vs.length), ArgR g0 w I (i + t) args[t] vs[t]
  | _, _ :: _, _ :: _, h, 0, _, _ => h.1
  | i, _ :: as, _ :: vs, h, t + 1, h1, h2 => by
    have := ArgsR.get h.2 t (by simpa using h1) (by simpa using h2)
    simpa [show i + 1 + t = i + (t + 1) from by omega] using this
  | _, [], [], _, _, h1, _ => by simp at h1
  | _, [], _ :: _, h, _, _, _ => h.elim
  | _, _ :: _, [], h, _, _, _ => h.elim
theorem AlR.leaf {i j : Nat} {al : AL} {v : Value} (h : AlR g0 w I i j al v) : LfR κ g0 w I (leafIn i j al) v := by
  cases al with
  | sc s d => exact ⟨ScR.single h, s, rfl, h⟩
  | fz es rows => exact ⟨LeafR.single h, trivial, old_nil _, fun _ => LeafR.mono (fun b o hb => .inl hb) (fun _ _ _ => rfl) _ h⟩
  | own es ms rows =>
    obtain ⟨h1, h2, h3⟩ := h
    exact ⟨(h2.leaf (S := fun _ _ => True) (fun _ _ _ => trivial) (fun _ _ _ => trivial)).single, trivial, Nat.zero_le _, fun _ => h1⟩
  | nl es => 
    have : v = .slice none 0 0 := h
    subst this
    exact ⟨⟨fun _ h => (nomatch h), fun _ h => (nomatch h)⟩, trivial, rfl, rfl⟩
theorem AlsR.leaves {i : Nat} : ∀ {j : Nat} {als : List AL} {vs : List Value}, AlsR g0 w I i j als vs → LfsR κ g0 w I (leavesIn i j als) vs
  | _, [], [], _ => trivial
  | _, _ :: _, _ :: _, h => ⟨h.1.leaf, AlsR.leaves h.2⟩
  | _, [], _ :: _, h => h.elim
  | _, _ :: _, [], h => h.elim
theorem RptR.ent {lts : List LT} {row : List T} {v : Value} (h : RptR w I lts row v) : Ent0R κ g0 w I (.rp [] lts row) v := by
  obtain ⟨b, o, rfl, h⟩ := h
  exact ⟨⟨fun _ h => (nomatch h), fun _ h => (nomatch h)⟩, old_nil _, fun _ => ⟨b, o, rfl, RowR.mono (fun b o hb => .inl hb) (fun _ _ _ => rfl) (fun b o hb => .inl hb) (fun _ _ _ => rfl) _ h⟩⟩
theorem CapsR.ents : ∀ {as : List Arg} {vs : List Value}, CapsR w I as vs → Ents0R κ g0 w I (as.map capIn) vs
  | [], [], _ => trivial
  | _ :: _, _ :: _, h => by
    obtain ⟨⟨lts, row, rfl, h1⟩, h2⟩ := h
    exact ⟨h1.ent, CapsR.ents h2⟩
  | [], _ :: _, h => h.elim
  | _ :: _, [], h => h.elim
theorem leavesIn_len (i : Nat) : ∀ (j : Nat) (als : List AL), (leavesIn i j als).length = als.length
  | _, [] => rfl
  | j, a :: as => by simp only [leavesIn, List.length_cons, leavesIn_len i (j + 1) as]
theorem BxR.own {i : Nat} {als : List AL} {v : Value} (h : BxR g0 w I i als v) : BoxOwn κ g0 w I (leavesIn i 0 als) (g0.h [i, bxJ]) (g0.F [i, bxJ]) := by
  obtain ⟨-, cs, h1, h2⟩ := h
  refine BoxAt.own (cs := cs) ?_ h2.leaves
  rw [leavesIn_len]; exact h1
theorem BxR.ent {i : Nat} {als : List AL} {v : Value} (h : BxR g0 w I i als v) : Ent0R κ g0 w I (.ptr [i, bxJ] 0 0 0) v := by
  obtain ⟨rfl, cs, ⟨b, o, c, el, fz, h1, -⟩, -⟩ := h
  rw [h1]
  exact ⟨⟨fun _ h => (nomatch h), fun _ h => (nomatch h)⟩, Nat.zero_le _, fun _ => ⟨b, o, rfl, by simp only [h1, addrIn, Nat.add_zero]⟩⟩
theorem ArgR.ent {i : Nat} {a : Arg} {v : Value} (h : ArgR g0 w I i a v) : EntR κ g0 w I (entIn i a) v := by
  cases a with
  | one al => exact AlR.leaf (al := al) h
  | agg als => obtain ⟨cs, h1, h2⟩ := h; exact ⟨cs, h1, h2.leaves⟩
  | rpt lts row => exact RptR.ent h
  | bx als => exact BxR.ent h
  | fn f caps => obtain ⟨vs, h1, h2⟩ := h; exact ⟨vs, h1, h2.ents⟩
theorem AlsR.chs {i : Nat} : ∀ {j : Nat} {als : List AL} {vs : List Value}, AlsR g0 w I i j als vs → ∀ p ∈ alChs i j als, ChR κ g0 w I p.1 p.2 ∧ ∃ q, p.1 = [i, q]
  | _, [], _, _, p, hp => by cases hp
  | j, a :: as, v :: vs, h, p, hp => by
    have ih := AlsR.chs h.2 p
    have h1 := h.1
    cases a with
    | own es ms rows =>
      simp only [alChs, List.mem_cons] at hp
      rcases hp with rfl | hp
      · obtain ⟨h2, h3, h4⟩ := h1
        exact ⟨⟨h2 ▸ h3, h4⟩, j, rfl⟩
      · exact ih hp
    | sc _ _ => exact ih hp
    | fz _ _ => exact ih hp
    | nl _ => exact ih hp
  | _, _ :: _, [], h, _, _ => h.elim
theorem ArgsR.chs : ∀ {i : Nat} {args : List Arg} {vs : List Value}, ArgsR g0 w I i args vs → ∀ p ∈ chsAll i args, ChR κ g0 w I p.1 p.2 ∧ ∃ r q, p.1 = [r, q] ∧ r < i + args.length
  | _, [], _, _, p, hp => by cases hp
  | i, a :: as, v :: vs, h, p, hp => by
    simp only [chsAll, List.mem_append] at hp
    rcases hp with hp | hp
    · have h1 := h.1
      cases a with
      | one al =>
        have := AlsR.chs (κ := κ) (j := 0) (als := [al]) (vs := [v]) ⟨h1, trivial⟩ p hp
        obtain ⟨h2, q, h3⟩ := this
        exact ⟨h2, i, q, h3, by simp⟩
      | agg als =>
        obtain ⟨cs, -, h1⟩ := h1
        obtain ⟨h2, q, h3⟩ := AlsR.chs (κ := κ) h1 p hp
        exact ⟨h2, i, q, h3, by simp⟩
      | rpt _ _ => cases hp
      | fn _ _ => cases hp
      | bx als =>
        simp only [chsIn, List.mem_cons] at hp
        rcases hp with rfl | hp
        · exact ⟨BxR.own h1, i, bxJ, rfl, by simp⟩
        · obtain ⟨-, cs, -, h1⟩ := h1
          obtain ⟨h2, q, h3⟩ := AlsR.chs (κ := κ) h1 p hp
          exact ⟨h2, i, q, h3, by simp⟩
    · obtain ⟨h2, r, q, h3, h4⟩ := ArgsR.chs h.2 p hp
      exact ⟨h2, r, q, h3, by simp only [List.length_cons]; omega⟩
  | _, _ :: _, [], h, _, _ => h.elim
theorem findCh_mem (k : Key) : ∀ (l : List (Key × Ch)), (findCh k l = ⟨.gone, 0, 0⟩) ∨ ∃ c, (k, c) ∈ l ∧ findCh k l = ⟨c, 0, 0⟩
  | [] => .inl rfl
  | (u, c) :: l => by
    unfold findCh
    cases hb : keyEq k u with
    | true =>
      have := (keyEq_iff _ _).1 hb
      subst this
      exact .inr ⟨c, by simp, rfl⟩
    | false =>
      simp only [cond_false]
      rcases findCh_mem k l with h | ⟨c', h1, h2⟩
      · exact .inl h
      · exact .inr ⟨c', by simp [h1], h2⟩
end
/-- what is fixed for a call -/
def frOf (nt : Nat) (args : List Arg) (hb : args.length ≤ 1000000) (g0 : Gh) (I A : Foot) : Fr := ⟨nt, args.length, hb, g0.h, g0.F, A, I⟩
theorem start_R {nt : Nat} {args : List Arg} (hb : args.length ≤ 1000000) {g0 : Gh} {I A : Foot} {w : World} {vs : Array Value} (h : Pre g0 I A args w vs) (hn : args.length ≤ nt) :
    R (frOf nt args hb g0 I A) (unpackS (startS args)) g0 I { tmps := vs ++ Array.replicate (nt - vs.size) undef, defers := [] } w := by
  have hl := h.rel.len
  simp only [Array.length_toList] at hl
  refine ⟨?_, rfl, fun t => ?_, fun k => ?_, fun k k' => h.sep k k', fun k => h.imm k, h.iwf, ⟨fun _ _ _ => ⟨rfl, rfl⟩, fun k => h.frm k, h.awf, fun _ _ h _ => h⟩⟩
  · simp [frOf]; omega
  · simp only [unpackS, startS]
    rw [findEnt_in]
    split
    · rename_i ht
      have h1 := h.rel.get t (by omega) (by simp; omega)
      simp only [Nat.zero_add, Nat.sub_zero] at h1 ⊢
      have e1 : (vs ++ Array.replicate (nt - vs.size) undef).getD t undef = vs[t]'(by omega) := by
        rw [Array.getD_eq_getD_getElem?, Array.getElem?_append_left (by omega), Array.getElem?_eq_getElem (by omega)]
        rfl
      rw [e1]
      simpa using h1.ent
    · trivial
  · simp only [unpackS, startS]
    rcases findCh_mem k (chsAll 0 args) with h1 | ⟨c, h1, h2⟩
    · rw [h1]; trivial
    · rw [h2]
      exact (h.rel.chs (k, c) h1).1
end Go.E

namespace Go.E
open Go

/-! the end -/
section
variable {np : Nat} {n : Fr} {σ : S} {g : Gh} {I : Foot} {a : Act} {w : World} {g0 : Gh}
def GoodR (σ : S) (np : Nat) : RL → Prop
  | .own k es ms rows => (σ.k k).ch = .row es ms rows ∧ ¬ isPar np k
  | _ => True
theorem leafOut_ok (hR : R n σ g I a w) (hH : n.H = g0.h) {l : Leaf} {v : Value} {r : RL} (hl : LfR σ.k g w I l v) (h : leafOut σ n.np l = some r) :
    Single v ∧ RlR g0 g w I r v ∧ GoodR σ n.np r := by
  refine ⟨hl.1, ?_⟩
  obtain ⟨st, lt, d⟩ := l
  obtain ⟨hs, hl⟩ := hl
  unfold leafOut at h
  simp only at h hl
  split at h
  · cases h
    obtain ⟨s', e1, h1⟩ := hl
    cases e1
    exact ⟨h1, trivial⟩
  · cases h
    exact ⟨hl.2.1, trivial⟩
  · rename_i es ds
    cases ds with
    | nil =>
      simp only [Option.some.injEq] at h
      subst h
      obtain ⟨-, -, h1⟩ := hl
      have h2 := h1 (cur_nil _)
      refine ⟨?_, trivial⟩
      have h3 : LeafR w I (.sl es) v d := LeafR.mono (fun b o hb => hb.elim id (fun ⟨d, hd, _⟩ => (nomatch hd))) (fun _ _ _ => rfl) _ h2
      have h4 := h3
      unfold LeafR at h4
      obtain ⟨_, _, rows, rfl, -⟩ := h4
      exact h3
    | cons _ _ => cases h
  · rename_i es0 k m
    obtain ⟨-, h1, h2⟩ := hl
    cases hb : Nat.beq (σ.k k).idv m with
    | false => rw [hb] at h; cases h
    | true =>
      rw [hb] at h
      simp only [cond_true] at h
      have hv := h2 (Nat.eq_of_beq_eq_true hb)
      have hch := hR.chs k
      cases hc : (σ.k k).ch with
      | box _ => rw [hc] at h; cases h
      | gone => rw [hc] at h; cases h
      | fz es rows =>
        rw [hc] at h hch
        simp only at h
        cases hq : LT.beqs es0 es with
        | false => rw [hq] at h; cases h
        | true =>
          rw [hq] at h
          cases h
          subst hv
          exact ⟨hch, trivial⟩
      | row es ms rows =>
        rw [hc] at h hch
        simp only at h
        cases hq : LT.beqs es0 es with
        | false => rw [hq] at h; cases h
        | true =>
          rw [hq] at h
          simp only [cond_true] at h
          have hown : ∀ (hp : ¬ isPar n.np k), RlR g0 g w I (.own k es ms rows) v ∧ GoodR σ n.np (.own k es ms rows) := fun hp => ⟨⟨hv, hv ▸ hch.1, hch.2⟩, hc, hp⟩
          split at h
          · rename_i i j
            cases hlt : Nat.blt i n.np with
            | true =>
              rw [hlt] at h
              cases h
              have hp : isPar n.np [i, j] := by simpa [isPar, Nat.blt_eq] using hlt
              have := hR.x.par _ hp (by rw [hc]; trivial)
              refine ⟨?_, trivial⟩
              show v = g0.h [i, j]
              rw [hv, this.1, hH]
            | false =>
              rw [hlt] at h
              cases h
              refine hown fun hp => ?_
              have : Nat.blt i n.np = true := by simpa [isPar, Nat.blt_eq] using hp
              rw [this] at hlt; cases hlt
          · cases hlt : Nat.blt (k.headD 0) n.np with
            | true => rw [hlt] at h; cases h
            | false =>
              rw [hlt] at h
              cases h
              refine hown fun hp => ?_
              cases k with
              | nil => exact hp
              | cons i r =>
                have : Nat.blt i n.np = true := by simpa [isPar, Nat.blt_eq] using hp
                simp only [List.headD_cons] at hlt
                rw [this] at hlt; cases hlt
  · cases h
theorem leavesOut_ok (hR : R n σ g I a w) (hH : n.H = g0.h) : ∀ {ls : List Leaf} {vs : List Value} {rs : List RL}, LfsR σ.k g w I ls vs → leavesOut σ n.np ls = some rs → RlsR g0 g w I rs vs ∧ ∀ r ∈ rs, GoodR σ n.np r
  | [], [], rs, _, h => by cases h; exact ⟨trivial, fun _ h => (nomatch h)⟩
  | l :: ls, v :: vs, rs, hl, h => by
    simp only [leavesOut] at h
    split at h
    · rename_i r rs' h1 h2
      cases h
      obtain ⟨h3, h4, h5⟩ := leafOut_ok hR hH hl.1 h1
      obtain ⟨h6, h7⟩ := leavesOut_ok hR hH hl.2 h2
      refine ⟨⟨h3, h4, h6⟩, fun r hr => ?_⟩
      rcases List.mem_cons.1 hr with rfl | hr
      · exact h5
      · exact h7 r hr
    · cases h
  | [], _ :: _, _, hl, _ => hl.elim
  | _ :: _, [], _, hl, _ => hl.elim
theorem leavesOut_len {np : Nat} : ∀ {ls : List Leaf} {rs : List RL}, leavesOut σ np ls = some rs → rs.length = ls.length
  | [], rs, h => by cases h; rfl
  | l :: ls, rs, h => by
    simp only [leavesOut] at h
    split at h
    · rename_i r rs' h1 h2
      cases h
      simp only [List.length_cons, leavesOut_len h2]
    · cases h
theorem entOut_ok (hR : R n σ g I a w) (hH : n.H = g0.h) {e : Ent} {v : Value} {r : RE} (he : EntR σ.k g w I e v) (h : entOut σ n.np e = some r) :
    ReR g0 g w I r v ∧ ∀ k ∈ keysOfR r, Live (σ.k k).ch ∧ ¬ isPar n.np k := by
  cases e with
  | one l =>
    simp only [entOut, Option.map_eq_some_iff] at h
    obtain ⟨r, h, rfl⟩ := h
    obtain ⟨h1, h2, h3⟩ := leafOut_ok hR hH he h
    refine ⟨⟨h1, h2⟩, fun k hk => ?_⟩
    cases r with
    | own k' es ms rows =>
      simp only [keysOfR, List.mem_cons, List.not_mem_nil, or_false] at hk
      subst hk
      exact ⟨by rw [h3.1]; trivial, h3.2⟩
    | _ => cases hk
  | agg ls =>
    simp only [entOut, Option.map_eq_some_iff] at h
    obtain ⟨rs, h, rfl⟩ := h
    obtain ⟨cs, rfl, he⟩ := he
    obtain ⟨h1, h2⟩ := leavesOut_ok hR hH he h
    refine ⟨⟨cs, rfl, h1⟩, fun k hk => ?_⟩
    simp only [keysOfR, List.mem_filterMap] at hk
    obtain ⟨r, hr, hk⟩ := hk
    have h3 := h2 r hr
    cases r with
    | own k' es ms rows =>
      simp only [Option.some.injEq] at hk
      subst hk
      exact ⟨by rw [h3.1]; trivial, h3.2⟩
    | _ => cases hk
  | ptr k m i off =>
    simp only [entOut] at h
    cases hb : (Nat.beq (σ.k k).idv m && Nat.beq off 0 && !Nat.blt (k.headD 0) n.np) with
    | false => rw [hb] at h; cases h
    | true =>
      rw [hb] at h
      simp only [Bool.and_eq_true, Bool.not_eq_true'] at hb
      obtain ⟨⟨hb1, hb2⟩, hb3⟩ := hb
      have hoff := Nat.eq_of_beq_eq_true hb2
      subst hoff
      have hch := hR.chs k
      cases hc : (σ.k k).ch with
      | box ls =>
        rw [hc] at h hch
        simp only [cond_true, Option.map_eq_some_iff] at h
        obtain ⟨rs, h, rfl⟩ := h
        obtain ⟨hs, -, he⟩ := he
        obtain ⟨b, o, rfl, ha⟩ := he (Nat.eq_of_beq_eq_true hb1)
        obtain ⟨cs, hat, hls⟩ := BoxOwn.at hch
        obtain ⟨h1, h2⟩ := leavesOut_ok hR hH hls h
        have hlen := leavesOut_len h
        have hh : Value.pointer (some ⟨b, o, none⟩) = g.h k := by
          obtain ⟨b', o', c', el, fz, e1, -⟩ := hat
          rw [e1] at ha ⊢
          simp only [addrIn, Nat.add_zero, Option.some.injEq, Prod.mk.injEq] at ha
          rw [ha.1, ha.2]
        refine ⟨⟨hh, cs, by rw [hlen]; exact hat, h1⟩, fun k' hk => ?_⟩
        simp only [keysOfR, List.mem_cons] at hk
        rcases hk with rfl | hk
        · refine ⟨by rw [hc]; trivial, fun hp => ?_⟩
          cases k' with
          | nil => exact hp
          | cons i r =>
            have : Nat.blt i n.np = true := by simpa [isPar, Nat.blt_eq] using hp
            simp only [List.headD_cons] at hb3
            rw [this] at hb3; cases hb3
        · obtain ⟨r, hr, hk⟩ := List.mem_flatMap.1 hk
          have h3 := h2 r hr
          cases r with
          | own k'' es ms rows =>
            simp only [keysOfL, List.mem_cons, List.not_mem_nil, or_false] at hk
            subst hk
            exact ⟨by rw [h3.1]; trivial, h3.2⟩
          | _ => cases hk
      | _ => rw [hc] at h; cases h
  | _ => cases h
def EntsR' (κ : Key → KE) (g : Gh) (w : World) (I : Foot) : List Ent → List Value → Prop
  | [], [] => True
  | e :: es, v :: vs => EntR κ g w I e v ∧ EntsR' κ g w I es vs
  | _, _ => False
theorem entsOut_ok (hR : R n σ g I a w) (hH : n.H = g0.h) : ∀ {es : List Ent} {vs : List Value} {rs : List RE}, EntsR' σ.k g w I es vs → entsOut σ n.np es = some rs →
    ResR g0 g w I rs vs ∧ ∀ k ∈ rs.flatMap keysOfR, Live (σ.k k).ch ∧ ¬ isPar n.np k
  | [], [], rs, _, h => by cases h; exact ⟨trivial, fun _ h => (nomatch h)⟩
  | e :: es, v :: vs, rs, hl, h => by
    simp only [entsOut] at h
    split at h
    · rename_i r rs' h1 h2
      cases h
      obtain ⟨h3, h4⟩ := entOut_ok hR hH hl.1 h1
      obtain ⟨h6, h7⟩ := entsOut_ok hR hH hl.2 h2
      refine ⟨⟨h3, h6⟩, fun k hk => ?_⟩
      simp only [List.flatMap_cons, List.mem_append] at hk
      exact hk.elim (h4 k) (h7 k)
    · cases h
  | [], _ :: _, _, hl, _ => hl.elim
  | _ :: _, [], _, hl, _ => hl.elim
theorem ownsOut_at {i : Nat} : ∀ {als : List AL} {j0 j : Nat} {x : List LT × List M × List (List T)}, (ownsOut σ i j0 als).getD j none = some x → (σ.k [i, j0 + j]).ch = .row x.1 x.2.1 x.2.2
  | [], j0, j, x, h => by simp [ownsOut] at h
  | al :: als, j0, 0, x, h => by
    simp only [ownsOut, List.getD_cons_zero] at h
    cases al with
    | own _ _ _ =>
      simp only at h
      cases hc : (σ.k [i, j0]).ch with
      | row es ms rows => rw [hc] at h; cases h; simpa using hc
      | _ => rw [hc] at h; cases h
    | _ => cases h
  | al :: als, j0, j + 1, x, h => by
    simp only [ownsOut, List.getD_cons_succ] at h
    have := ownsOut_at h
    rwa [show j0 + 1 + j = j0 + (j + 1) from by omega] at this
theorem ownsAll_at : ∀ {args : List Arg} {i0 i j : Nat} {x : List LT × List M × List (List T)}, (((ownsAll σ i0 args).getD i []).getD j none) = some x → (σ.k [i0 + i, j]).ch = .row x.1 x.2.1 x.2.2 ∧ i < args.length
  | [], i0, i, j, x, h => by simp [ownsAll] at h
  | al :: als, i0, 0, j, x, h => by
    simp only [ownsAll, List.getD_cons_zero] at h
    refine ⟨?_, by simp⟩
    cases al with
    | one al => have := ownsOut_at (als := [al]) h; simpa using this
    | agg als => have := ownsOut_at h; simpa using this
    | bx als => have := ownsOut_at h; simpa using this
    | _ => simp [ownOut] at h
  | al :: als, i0, i + 1, j, x, h => by
    simp only [ownsAll, List.getD_cons_succ] at h
    obtain ⟨h1, h2⟩ := ownsAll_at h
    exact ⟨by rwa [show i0 + 1 + i = i0 + (i + 1) from by omega] at h1, by simp; omega⟩
theorem bxsOut_at : ∀ {args : List Arg} {i0 : Nat} {bs : List (Option (List RL))}, bxsOut σ n.np i0 args = some bs →
    (∀ i rls, bs.getD i none = some rls → i < args.length ∧ ∃ ls, (σ.k [i0 + i, bxJ]).ch = .box ls ∧ leavesOut σ n.np ls = some rls) ∧
      ∀ k ∈ bs.flatMap keysOfB, ∃ i rls, bs.getD i none = some rls ∧ k ∈ rls.flatMap keysOfL
  | [], i0, bs, h => by cases h; exact ⟨fun i rls h => by simp at h, fun k hk => (nomatch hk)⟩
  | al :: args, i0, bs, h => by
    have key : ∀ (o : Option (List RL)) (bs' : List (Option (List RL))), bxsOut σ n.np (i0 + 1) args = some bs' → bs = o :: bs' → (∀ rls, o = some rls → ∃ ls, (σ.k [i0, bxJ]).ch = .box ls ∧ leavesOut σ n.np ls = some rls) →
        (∀ i rls, bs.getD i none = some rls → i < (al :: args).length ∧ ∃ ls, (σ.k [i0 + i, bxJ]).ch = .box ls ∧ leavesOut σ n.np ls = some rls) ∧ ∀ k ∈ bs.flatMap keysOfB, ∃ i rls, bs.getD i none = some rls ∧ k ∈ rls.flatMap keysOfL := by
      intro o bs' h1 h2 h3
      subst h2
      obtain ⟨h4, h5⟩ := bxsOut_at h1
      refine ⟨fun i rls hi => ?_, fun k hk => ?_⟩
      · cases i with
        | zero => exact ⟨by simp, h3 rls hi⟩
        | succ i =>
          simp only [List.getD_cons_succ] at hi
          obtain ⟨h6, h7⟩ := h4 i rls hi
          exact ⟨by simp; omega, by rwa [show i0 + 1 + i = i0 + (i + 1) from by omega] at h7⟩
      · simp only [List.flatMap_cons, List.mem_append] at hk
        rcases hk with hk | hk
        · cases o with
          | none => cases hk
          | some rls => exact ⟨0, rls, rfl, hk⟩
        · obtain ⟨i, rls, h6, h7⟩ := h5 k hk
          exact ⟨i + 1, rls, h6, h7⟩
    have none_ : (bxsOut σ n.np (i0 + 1) args).map (none :: ·) = some bs → (∀ i rls, bs.getD i none = some rls → i < (al :: args).length ∧ ∃ ls, (σ.k [i0 + i, bxJ]).ch = .box ls ∧ leavesOut σ n.np ls = some rls) ∧
        ∀ k ∈ bs.flatMap keysOfB, ∃ i rls, bs.getD i none = some rls ∧ k ∈ rls.flatMap keysOfL := fun h => by
      cases hb : bxsOut σ n.np (i0 + 1) args with
      | none => rw [hb] at h; cases h
      | some bs' =>
        rw [hb] at h
        cases h
        exact key none bs' hb rfl fun _ h => (nomatch h)
    cases al with
    | bx als =>
      simp only [bxsOut] at h
      cases hc : (σ.k [i0, bxJ]).ch with
      | box ls =>
        rw [hc] at h
        simp only at h
        cases h1 : leavesOut σ n.np ls with
        | none => rw [h1] at h; cases h
        | some r =>
          rw [h1] at h
          cases hb : bxsOut σ n.np (i0 + 1) args with
          | none => rw [hb] at h; cases h
          | some bs' =>
            rw [hb] at h
            cases h
            exact key (some r) bs' hb rfl fun rls e => by cases e; exact ⟨ls, hc, h1⟩
      | _ => rw [hc] at h; cases h
    | one _ => exact none_ h
    | agg _ => exact none_ h
    | rpt _ _ => exact none_ h
    | fn _ _ => exact none_ h
theorem nodupKeys_ok : ∀ {ks : List Key}, nodupKeys ks = true → ks.Nodup
  | [], _ => List.nodup_nil
  | k :: ks, h => by
    simp only [nodupKeys, Bool.and_eq_true, Bool.not_eq_true'] at h
    refine List.nodup_cons.2 ⟨fun hk => ?_, nodupKeys_ok h.2⟩
    have : ks.any (keyEq k) = true := List.any_eq_true.2 ⟨k, hk, keyEq_self k⟩
    rw [this] at h
    cases h.1
theorem mapM_run {P : Program} {f : ResultVar → Sem Value} {r : ResultVar} {rs : List ResultVar} {v : Value} {vs : List Value} (h1 : (f r).run P w = .ok v w) (h2 : (rs.mapM f).run P w = .ok vs w) : ((r :: rs).mapM f).run P w = .ok (v :: vs) w := by
  rw [List.mapM_cons, Sem.run_bind, h1]
  simp only [Result.andThen_ok]
  rw [Sem.run_bind, h2]
  rfl
theorem resE_ok {Γ : Ctx} {P : Program} (hΓ : CtxOk Γ P) (hR : R n σ g I a w) {f : ResultVar → Sem Value} (hf1 : ∀ t, f (.tmp t) = pure (a.tmps.getD t undef)) (hf2 : ∀ x t, f (.cell x t) = do loadVar t (← asAddr (a.tmps.getD x undef))) :
    ∀ {rs : List ResultVar} {es : List Ent}, resE Γ σ rs = some es → ∃ vs, (rs.mapM f).run P w = .ok vs w ∧ EntsR' σ.k g w I es vs
  | [], es, h => by cases h; exact ⟨[], rfl, trivial⟩
  | .tmp t :: rs, es, h => by
    simp only [resE, Option.map_eq_some_iff] at h
    obtain ⟨es', h, rfl⟩ := h
    obtain ⟨vs, h1, h2⟩ := resE_ok hΓ hR hf1 hf2 h
    exact ⟨_ :: vs, mapM_run (by rw [hf1]; rfl) h1, hR.slots t, h2⟩
  | .cell x t :: rs, es, h => by
    simp only [resE] at h
    split at h
    · rename_i ti key m r off hty hsl
      cases hid : Nat.beq (σ.k key).idv m with
      | false => rw [hid] at h; cases h
      | true =>
        rw [hid] at h
        simp only [cond_true] at h
        have hs := hR.slots x
        rw [hsl] at hs
        obtain ⟨-, -, hs⟩ := hs
        obtain ⟨b, o', hx, haddr⟩ := hs (Nat.eq_of_beq_eq_true hid)
        have hch := hR.chs key
        cases hc : (σ.k key).ch with
        | row _ _ _ => rw [hc] at h; cases h
        | fz _ _ => rw [hc] at h; cases h
        | gone => rw [hc] at h; cases h
        | box ls =>
          rw [hc] at h hch haddr
          simp only at h
          cases hb : Nat.ble (off + ti.lts.length) ls.length with
          | false => rw [hb] at h; cases h
          | true =>
            rw [hb] at h
            simp only [cond_true, Option.map_eq_some_iff] at h
            obtain ⟨es', h, rfl⟩ := h
            obtain ⟨vs, h1, h2⟩ := resE_ok hΓ hR hf1 hf2 h
            have hble := Nat.le_of_ble_eq_true hb
            obtain ⟨bb, oo, c, el, fz, hh, hblk, hsz, -, -, hls⟩ := hch
            rw [hh] at haddr
            simp only [addrIn, Option.some.injEq, Prod.mk.injEq] at haddr
            obtain ⟨rfl, rfl⟩ := haddr
            have hl := LfsR.take ti.lts.length (LfsR.drop off hls)
            have hcell : CellsAt w bb (oo + off) ((((c.toList.drop oo).take ls.length).drop off).take ti.lts.length) := by
              refine CellsAt.of_block hblk _ _ fun j hj => ?_
              simp only [List.length_take, List.length_drop, Array.length_toList] at hj
              simp only [List.getElem_take, List.getElem_drop, Array.getElem_toList]
              rw [Array.getElem?_eq_getElem (by omega)]
              simp only [Nat.add_assoc]
            have hn : ((((c.toList.drop oo).take ls.length).drop off).take ti.lts.length).length = ti.lts.length := by
              simp only [List.length_take, List.length_drop, Array.length_toList]; omega
            have hty' := hΓ.ty _ _ hty
            have hrun : ∀ v, (loadVar t ⟨bb, oo + off, none⟩).run P w = .ok v w → (f (.cell x t)).run P w = .ok v w := fun v hv => by
              rw [hf2, hx]
              simp only [asAddr, pure_bind]
              exact hv
            cases ha : isAggK ti.kind with
            | true => exact ⟨_, mapM_run (hrun _ ((run_loadVar hty' hcell hn).1 ha)) h1, mkEnt_ok (by simpa using hl), h2⟩
            | false =>
              have hn1 := notAgg_len hty' ha
              generalize hvs : (((c.toList.drop oo).take ls.length).drop off).take ti.lts.length = us at hl hcell hn
              rw [hn1] at hn
              match us, hn with
              | [v], _ => exact ⟨_, mapM_run (hrun _ ((run_loadVar hty' hcell (by simpa using hn1.symm)).2 ha v rfl)) h1, mkEnt_ok1 hl, h2⟩
    · cases h
theorem run_results {P : Program} {fn : Func} {tmps : Array Value} {vs : List Value} (h : ∀ (f : ResultVar → Sem Value), (∀ t, f (.tmp t) = pure (tmps.getD t undef)) → (∀ x t, f (.cell x t) = do loadVar t (← asAddr (tmps.getD x undef))) → (fn.results.toList.mapM f).run P w = .ok vs w) :
    (results fn tmps).run P w = .ok (oneV vs) w := by
  unfold results
  rw [show fn.results = fn.results.toList.toArray from by simp, List.mapM_toArray]
  rw [Sem.run_bind, map_eq_pure_bind, Sem.run_bind, h _ (fun _ => rfl) (fun _ _ => rfl)]
  match vs with
  | [] => rfl
  | [v] => rfl
  | v :: u :: r => rfl

/-- the end of a function's run -/
theorem finish_ok {Γ : Ctx} {P : Program} (hΓ : CtxOk Γ P) {nt : Nat} {args : List Arg} {hb : args.length ≤ 1000000} {A I0 : Foot} {w0 : World} {fn : Func} {ret : Ret} (hR : R (frOf nt args hb g0 I0 A) σ g I a w) (hinc : ∀ b o, I0 b o → I b o)
    (hk : Keeps (fun b o => I0 b o ∨ A b o) w0 w) (h : retOf Γ fn args σ = .ok ret) : ∃ v, (results fn a.tmps).run P w = .ok v w ∧ RetR g0 I0 A args w0 ret g I w v := by
  unfold retOf at h
  simp only at h
  cases hre : resE Γ σ fn.results.toList with
  | none => rw [hre] at h; cases h
  | some es =>
    rw [hre] at h
    simp only at h
    cases heo : entsOut σ args.length es with
    | none => rw [heo] at h; cases h
    | some rs =>
      rw [heo] at h
      simp only at h
      cases hbo : bxsOut σ args.length 0 args with
      | none => rw [hbo] at h; cases h
      | some bs =>
      rw [hbo] at h
      simp only at h
      cases hnd : nodupKeys (rs.flatMap keysOfR ++ bs.flatMap keysOfB) with
      | false => rw [hnd] at h; cases h
      | true =>
        rw [hnd] at h
        cases h
        obtain ⟨vs, hrv, hev⟩ : ∃ vs, (results fn a.tmps).run P w = .ok (oneV vs) w ∧ EntsR' σ.k g w I es vs := by
          have hx := fun f h1 h2 => resE_ok hΓ hR (f := f) h1 h2 hre
          obtain ⟨vs, h1, h2⟩ := hx (fun | .tmp t => pure (a.tmps.getD t undef) | .cell x t => do loadVar t (← asAddr (a.tmps.getD x undef))) (fun _ => rfl) (fun _ _ => rfl)
          refine ⟨vs, run_results fun f hf1 hf2 => ?_, h2⟩
          have : f = (fun | .tmp t => pure (a.tmps.getD t undef) | .cell x t => do loadVar t (← asAddr (a.tmps.getD x undef))) := by
            funext r; cases r with
            | tmp t => exact hf1 t
            | cell x t => exact hf2 x t
          rw [this]; exact h1
        obtain ⟨h1, h2'⟩ := entsOut_ok (n := frOf nt args hb g0 I0 A) (g0 := g0) hR rfl hev heo
        obtain ⟨hb1, hb2⟩ := bxsOut_at (n := frOf nt args hb g0 I0 A) hbo
        have hbox : ∀ i ls, bs.getD i none = some ls → (∃ cs, BoxAt w (g0.h [i, bxJ]) (g0.F [i, bxJ]) ls.length cs ∧ RlsR g0 g w I ls cs) ∧ Foot.apart (g0.F [i, bxJ]) I ∧ (∀ r ∈ ls, GoodR σ args.length r) ∧
            isPar args.length [i, bxJ] ∧ Live (σ.k [i, bxJ]).ch ∧ g.F [i, bxJ] = g0.F [i, bxJ] := by
          intro i ls hi
          obtain ⟨h3, ls0, h4, h5⟩ := hb1 i ls hi
          rw [Nat.zero_add] at h4
          have hp : isPar args.length [i, bxJ] := h3
          have hlv : Live (σ.k [i, bxJ]).ch := by rw [h4]; trivial
          obtain ⟨e1, e2⟩ := hR.x.par [i, bxJ] hp hlv
          have hch := hR.chs [i, bxJ]
          rw [h4] at hch
          obtain ⟨cs, h6, h7⟩ := BoxOwn.at hch
          obtain ⟨h8, h9⟩ := leavesOut_ok (n := frOf nt args hb g0 I0 A) (g0 := g0) hR rfl h7 h5
          have e1 : g.h [i, bxJ] = g0.h [i, bxJ] := e1
          have e2 : g.F [i, bxJ] = g0.F [i, bxJ] := e2
          rw [e1, e2] at h6
          refine ⟨⟨cs, ?_, h8⟩, ?_, h9, hp, hlv, e2⟩
          · rw [leavesOut_len h5]; exact h6
          · rw [← e2]; exact hR.imm _ hlv
        have h2 : ∀ k ∈ retKeys ⟨rs, ownsAll σ 0 args, bs⟩, Live (σ.k k).ch ∧ ¬ isPar args.length k := by
          intro k hk
          rcases List.mem_append.1 hk with hk | hk
          · exact h2' k hk
          · obtain ⟨i, rls, h3, h4⟩ := hb2 k hk
            obtain ⟨-, -, h5, -⟩ := hbox i rls h3
            obtain ⟨r, h6, h7⟩ := List.mem_flatMap.1 h4
            have h8 := h5 r h6
            cases r with
            | own k' es ms rows =>
              simp only [keysOfL, List.mem_singleton] at h7
              subst h7
              exact ⟨by rw [h8.1]; trivial, h8.2⟩
            | _ => cases h7
        have hown : ∀ i j es ms rows, ownOf ⟨rs, ownsAll σ 0 args, bs⟩ i j = some (es, ms, rows) → (σ.k [i, j]).ch = .row es ms rows ∧ g.h [i, j] = g0.h [i, j] ∧ g.F [i, j] = g0.F [i, j] ∧ isPar args.length [i, j] := by
          intro i j es ms rows ho
          obtain ⟨h3, h4⟩ := ownsAll_at ho
          simp only [Nat.zero_add] at h3
          have hp : isPar args.length [i, j] := h4
          have := hR.x.par [i, j] hp (by rw [h3]; trivial)
          exact ⟨h3, this.1, this.2, hp⟩
        refine ⟨_, hrv, ⟨_, rfl, h1⟩, fun i j es ms rows ho => ?_, nodupKeys_ok hnd, fun k k' hk hk' => hR.sep k k' (h2 k hk).1 (h2 k' hk').1, fun k i j es ms rows hk ho => ?_,
          fun i ls hi => ⟨(hbox i ls hi).1, (hbox i ls hi).2.1⟩, fun k i ls hk hi => ?_, fun k hk => hR.imm k (h2 k hk).1, fun k hk => hR.x.frm k (h2 k hk).1, hinc, hR.x.ia, hR.iwf, hk⟩
        · obtain ⟨h3, h4, h5, -⟩ := hown i j es ms rows ho
          have hch := hR.chs [i, j]
          rw [h3] at hch
          refine ⟨?_, hch.2, ?_⟩
          · rw [← h4, ← h5]; exact hch.1
          · rw [← h5]; exact hR.imm _ (by rw [h3]; trivial)
        · obtain ⟨h3, h4, h5, h6⟩ := hown i j es ms rows ho
          rw [← h5]
          exact hR.sep k [i, j] (h2 k hk).1 (by rw [h3]; trivial) fun e => (h2 k hk).2 (by rw [e]; exact h6)
        · obtain ⟨-, -, -, h6, h7, h8⟩ := hbox i ls hi
          rw [← h8]
          exact hR.sep k [i, bxJ] (h2 k hk).1 h7 fun e => (h2 k hk).2 (by rw [e]; exact h6)
end
end Go.E

namespace Go.E
open Go

section
variable {Γ : Ctx} {P : Program} {cf : FuncId → List Arg → R3 Ret}
variable {n : Fr} {σ : S} {g : Gh} {I : Foot} {a : Act} {w w' : World}
variable {o : Oper} {f : FuncId} {tr : Tr} {Q : S → Tr → Prop} {K : Act → World → Prop} {Qm : Exit → Act → World → Prop}

structure Fits (σ : S) (g : Gh) (I : Foot) (g0 : Gh) (I0 : Foot) (c : Pass) : Prop where
  lend : ∀ l ∈ c.lends, g0.h [l.i, l.j] = g.h l.key ∧ g0.F [l.i, l.j] = g.F l.key
  dep : ∀ b o, depFoot σ.k g I c.deps b o → I0 b o
structure PassOk (σ : S) (c : Pass) : Prop where
  lend : ∀ l ∈ c.lends, (σ.k l.key).idv = l.idv ∧ ((l.j = bxJ ∧ ∃ ls, (σ.k l.key).ch = .box ls) ∨ (l.j ≠ bxJ ∧ ∃ ms rows, (σ.k l.key).ch = .row l.es ms rows))
  old : Old σ.k c.deps
structure Ext (c c' : Pass) : Prop where
  lend : ∀ l ∈ c.lends, l ∈ c'.lends
  dep : ∀ d ∈ c.deps, d ∈ c'.deps
theorem Ext.refl (c : Pass) : Ext c c := ⟨fun _ h => h, fun _ h => h⟩
theorem Ext.trans {c c' c'' : Pass} (h : Ext c c') (h' : Ext c' c'') : Ext c c'' := ⟨fun l hl => h'.lend l (h.lend l hl), fun d hd => h'.dep d (h.dep d hd)⟩
theorem Fits.ext {g0 : Gh} {I0 : Foot} {c c' : Pass} (h : Fits σ g I g0 I0 c') (e : Ext c c') : Fits σ g I g0 I0 c :=
  ⟨fun l hl => h.lend l (e.lend l hl), fun b o hb => h.dep b o (hb.imp id fun ⟨d, hd, h⟩ => ⟨d, e.dep d hd, h⟩)⟩
theorem Fits.inc {g0 : Gh} {I0 : Foot} {c : Pass} (h : Fits σ g I g0 I0 c) : ∀ b o, I b o → I0 b o := fun b o hb => h.dep b o (.inl hb)
theorem depFoot_sub {κ : Key → KE} {ds ds' : List Dep} (h : ∀ d ∈ ds, d ∈ ds') : ∀ b o, depFoot κ g I ds b o → depFoot κ g I ds' b o :=
  fun b o hb => hb.imp id fun ⟨d, hd, h1⟩ => ⟨d, h d hd, h1⟩
theorem LeafR.same {S S' : Foot} (hs : ∀ b o, S b o → S' b o) {lt : LT} {v : Value} {d : T} (h : LeafR w S lt v d) : LeafR w S' lt v d := LeafR.mono hs (fun _ _ _ => rfl) lt h
theorem RowR.same {A A' S S' : Foot} (ha : ∀ b o, A b o → A' b o) (hs : ∀ b o, S b o → S' b o) {es : List LT} {b o : Nat} {row : List T} (h : RowR w A S es b o row) : RowR w A' S' es b o row :=
  RowR.mono ha (fun _ _ _ => rfl) hs (fun _ _ _ => rfl) es h
theorem RowOwn.same {I I' : Foot} (hs : ∀ b o, I b o → I' b o) {es : List LT} {rows : List (List T)} {h : Value} {F : Foot} (hr : RowOwn w I es rows h F) : RowOwn w I' es rows h F :=
  hr.keep (Keeps.refl (fun _ _ => True) w) (fun _ _ _ => trivial) fun b o hb => ⟨hs b o hb, rfl⟩
def AddDeps (c : Pass) (ds : List Dep) : Pass := { c with deps := ds ++ c.deps }
theorem PassOk.deps {c : Pass} (h : PassOk σ c) {ds : List Dep} (ho : Old σ.k ds) : PassOk σ { c with deps := ds ++ c.deps } :=
  ⟨h.lend, fun d hd => (List.mem_append.1 hd).elim (ho d) (h.old d)⟩
theorem Ext.deps (c : Pass) (ds : List Dep) : Ext c { c with deps := ds ++ c.deps } := ⟨fun _ h => h, fun d hd => List.mem_append.2 (.inr hd)⟩
theorem PassOk.dep1 {c : Pass} (h : PassOk σ c) {k : Key} : PassOk σ { c with deps := (k, (σ.k k).cv) :: c.deps } :=
  ⟨h.lend, fun d hd => by rcases List.mem_cons.1 hd with rfl | hd; exact Nat.le_refl _; exact h.old d hd⟩
theorem Ext.dep1 (c : Pass) (d : Dep) : Ext c { c with deps := d :: c.deps } := ⟨fun _ h => h, fun d hd => List.mem_cons.2 (.inr hd)⟩

def LendsOf (c : Pass) (i j : Nat) : AL → Prop
  | .own _ _ _ => ∃ l ∈ c.lends, l.i = i ∧ l.j = j
  | _ => True
theorem LendsOf.ext {c c' : Pass} (e : Ext c c') {i j : Nat} {al : AL} (h : LendsOf c i j al) : LendsOf c' i j al := by
  cases al with
  | own _ _ _ => obtain ⟨l, h1, h2⟩ := h; exact ⟨l, e.lend l h1, h2⟩
  | _ => trivial
theorem passLeaf_wp (hR : R n σ g I a w) {i j : Nat} {m : PM} {l : Leaf} {v : Value} {c : Pass} {k : AL → Pass → Prog} (hc : PassOk σ c) (hl : LfR σ.k g w I l v) (h : (passLeaf i j m l c k).wp cf σ tr Q) :
    ∃ al c' tr', (k al c').wp cf σ tr' Q ∧ PassOk σ c' ∧ Ext c c' ∧ LendsOf c' i j al ∧ ∀ g0 I0, Fits σ g I g0 I0 c' → AlR g0 w I0 i j al v := by
  obtain ⟨st, lt, d⟩ := l
  obtain ⟨hs, hl⟩ := hl
  unfold passLeaf at h
  simp only at h hl
  split at h
  · obtain ⟨s', e1, h1⟩ := hl
    cases e1
    exact ⟨_, c, tr, h, hc, Ext.refl c, trivial, fun _ _ _ => h1⟩
  · exact ⟨_, c, tr, h, hc, Ext.refl c, trivial, fun _ _ _ => hl.2.1⟩
  · rename_i es deps
    cases m with
    | O => exact h.elim
    | R =>
      obtain ⟨-, h1, h2⟩ := hl
      obtain ⟨h3, tr', h⟩ := depsOk_wp h
      have h4 := h2 h3
      refine ⟨_, _, tr', h, hc.deps h1, Ext.deps c deps, trivial, fun g0 I0 hf => ?_⟩
      have h5 : LeafR w I0 (.sl es) v d := h4.same fun b o hb => hf.dep b o (depFoot_sub (fun d hd => List.mem_append.2 (.inl hd)) b o hb)
      have h6 := h5
      unfold LeafR at h6
      obtain ⟨_, _, rows, rfl, -⟩ := h6
      exact h5
  · rename_i es0 key m'
    obtain ⟨-, h1, h2⟩ := hl
    obtain ⟨h3, h⟩ := h
    have hid := Nat.eq_of_beq_eq_true h3
    have hv := h2 hid
    have hch := hR.chs key
    cases hcc : (σ.k key).ch with
    | box _ => rw [hcc] at h; cases m <;> exact h.elim
    | gone => rw [hcc] at h; cases m <;> exact h.elim
    | fz es rows =>
      rw [hcc] at h hch
      cases m with
      | O => exact h.elim
      | R =>
        obtain ⟨hq, h⟩ := h
        refine ⟨_, c, _, h, hc, Ext.refl c, trivial, fun g0 I0 hf => ?_⟩
        subst hv
        exact LeafR.same hf.inc hch
    | row es ms rows =>
      rw [hcc] at h hch
      cases m with
      | R =>
        obtain ⟨hq, h⟩ := h
        refine ⟨_, _, _, h, hc.dep1, Ext.dep1 c _, trivial, fun g0 I0 hf => ?_⟩
        subst hv
        exact hch.1.leaf hf.inc fun b o hb => hf.dep b o (.inr ⟨(key, (σ.k key).cv), by simp, by simp only [hcc]; trivial, hb⟩)
      | O =>
        obtain ⟨hq, h⟩ := h
        refine ⟨_, _, _, h, ⟨fun l hl => ?_, hc.old⟩, ⟨fun l hl => List.mem_cons.2 (.inr hl), fun _ h => h⟩, ⟨_, List.mem_cons.2 (.inl rfl), rfl, rfl⟩, fun g0 I0 hf => ?_⟩
        · rcases List.mem_cons.1 hl with rfl | hl
          · refine ⟨hid, .inr ⟨fun e => ?_, ms, rows, hcc⟩⟩
            simp only [Bool.and_eq_true] at hq
            have h9 := Nat.le_of_ble_eq_true hq.2
            have e : j = bxJ := e
            omega
          · exact hc.lend l hl
        · obtain ⟨h4, h5⟩ := hf.lend _ (List.mem_cons.2 (.inl rfl))
          subst hv
          refine ⟨h4.symm, ?_, hch.2⟩
          rw [h5]
          exact hch.1.same hf.inc
  · exact h.elim
def LendsOfs (c : Pass) (i : Nat) : Nat → List AL → Prop
  | _, [] => True
  | j, a :: as => LendsOf c i j a ∧ LendsOfs c i (j + 1) as
theorem LendsOfs.ext {c c' : Pass} (e : Ext c c') {i : Nat} : ∀ {j : Nat} {als : List AL}, LendsOfs c i j als → LendsOfs c' i j als
  | _, [], _ => trivial
  | _, _ :: _, h => ⟨h.1.ext e, LendsOfs.ext e h.2⟩
theorem passLeaves_wp (hR : R n σ g I a w) {i : Nat} : ∀ {ls : List Leaf} {vs : List Value} {j : Nat} {ms : List PM} {c : Pass} {k : List AL → Pass → Prog} {tr : Tr}, PassOk σ c → LfsR σ.k g w I ls vs →
    (passLeaves i j ms ls c k).wp cf σ tr Q → ∃ als c' tr', (k als c').wp cf σ tr' Q ∧ PassOk σ c' ∧ Ext c c' ∧ LendsOfs c' i j als ∧ ∀ g0 I0, Fits σ g I g0 I0 c' → AlsR g0 w I0 i j als vs
  | [], [], j, ms, c, k, tr, hc, hl, h => ⟨[], c, tr, h, hc, Ext.refl c, trivial, fun _ _ _ => trivial⟩
  | l :: ls, v :: vs, j, ms, c, k, tr, hc, hl, h => by
    obtain ⟨al, c1, t1, h, h1, h2, h3, h4⟩ := passLeaf_wp hR hc hl.1 h
    obtain ⟨als, c2, t2, h, h5, h6, h7, h8⟩ := passLeaves_wp hR h1 hl.2 h
    exact ⟨_, c2, t2, h, h5, h2.trans h6, ⟨h3.ext h6, h7⟩, fun g0 I0 hf => ⟨h4 g0 I0 (hf.ext h6), h8 g0 I0 hf⟩⟩
  | [], _ :: _, _, _, _, _, _, _, hl, _ => hl.elim
  | _ :: _, [], _, _, _, _, _, _, hl, _ => hl.elim
theorem passLeafB_wp (hR : R n σ g I a w) {i j : Nat} {l : Leaf} {v : Value} {c : Pass} {k : AL → Pass → Prog} (hc : PassOk σ c) (hl : LfR σ.k g w I l v) (h : (passLeafB i j l c k).wp cf σ tr Q) :
    ∃ al c' tr', (k al c').wp cf σ tr' Q ∧ PassOk σ c' ∧ Ext c c' ∧ LendsOf c' i j al ∧ ∀ g0 I0, Fits σ g I g0 I0 c' → AlR g0 w I0 i j al v := by
  unfold passLeafB at h
  split at h
  · simp only [Prog.wp] at h
    split at h
    · exact passLeaf_wp hR hc hl h
    · exact passLeaf_wp hR hc hl h
  · exact passLeaf_wp hR hc hl h
theorem passLeavesB_wp (hR : R n σ g I a w) {i : Nat} : ∀ {ls : List Leaf} {vs : List Value} {j : Nat} {c : Pass} {k : List AL → Pass → Prog} {tr : Tr}, PassOk σ c → LfsR σ.k g w I ls vs →
    (passLeavesB i j ls c k).wp cf σ tr Q → ∃ als c' tr', (k als c').wp cf σ tr' Q ∧ PassOk σ c' ∧ Ext c c' ∧ LendsOfs c' i j als ∧ als.length = ls.length ∧ ∀ g0 I0, Fits σ g I g0 I0 c' → AlsR g0 w I0 i j als vs
  | [], [], j, c, k, tr, hc, hl, h => ⟨[], c, tr, h, hc, Ext.refl c, trivial, rfl, fun _ _ _ => trivial⟩
  | l :: ls, v :: vs, j, c, k, tr, hc, hl, h => by
    obtain ⟨al, c1, t1, h, h1, h2, h3, h4⟩ := passLeafB_wp hR hc hl.1 h
    obtain ⟨als, c2, t2, h, h5, h6, h7, h9, h8⟩ := passLeavesB_wp hR h1 hl.2 h
    exact ⟨_, c2, t2, h, h5, h2.trans h6, ⟨h3.ext h6, h7⟩, by simp [h9], fun g0 I0 hf => ⟨h4 g0 I0 (hf.ext h6), h8 g0 I0 hf⟩⟩
  | [], _ :: _, _, _, _, _, _, hl, _ => hl.elim
  | _ :: _, [], _, _, _, _, _, hl, _ => hl.elim
def LendsBx (c : Pass) (i : Nat) : Prop := ∃ l ∈ c.lends, l.i = i ∧ l.j = bxJ
theorem passBox_wp (hR : R n σ g I a w) {i sz : Nat} {e : Ent} {v : Value} {c : Pass} {k : Arg → Pass → Prog} (hc : PassOk σ c) (he : Ent0R σ.k g w I e v) (h : (passBox i sz e c k).wp cf σ tr Q) :
    ∃ als c' tr', (k (.bx als) c').wp cf σ tr' Q ∧ PassOk σ c' ∧ Ext c c' ∧ (LendsBx c' i ∧ LendsOfs c' i 0 als) ∧ ∀ g0 I0, Fits σ g I g0 I0 c' → BxR g0 w I0 i als v := by
  cases e with
  | ptr key m r off =>
    obtain ⟨hs, hm1, hm2⟩ := he
    simp only [passBox] at h
    obtain ⟨h3, h⟩ := h
    have hid := Nat.eq_of_beq_eq_true h3
    obtain ⟨b, o', rfl, ha⟩ := hm2 hid
    have hch := hR.chs key
    cases hcc : (σ.k key).ch with
    | box ls =>
      rw [hcc] at h hch ha
      obtain ⟨hq, h⟩ := h
      simp only [Bool.and_eq_true] at hq
      have hoff := Nat.eq_of_beq_eq_true hq.1.1
      subst hoff
      obtain ⟨cs, hb, hl⟩ := BoxOwn.at hch
      have hv : Value.pointer (some ⟨b, o', none⟩) = g.h key := by
        obtain ⟨b', o1, cc, el, fz, hh, -⟩ := hb
        rw [hh] at ha ⊢
        simp only [addrIn, Nat.add_zero, Option.some.injEq, Prod.mk.injEq] at ha
        obtain ⟨rfl, rfl⟩ := ha
        rfl
      have hc1 : PassOk σ { c with lends := ⟨key, m, [], i, bxJ⟩ :: c.lends } := ⟨fun l hl => by
        rcases List.mem_cons.1 hl with rfl | hl
        · exact ⟨hid, .inl ⟨rfl, ls, hcc⟩⟩
        · exact hc.lend l hl, hc.old⟩
      have e1 : Ext c { c with lends := ⟨key, m, [], i, bxJ⟩ :: c.lends } := ⟨fun l hl => List.mem_cons.2 (.inr hl), fun _ h => h⟩
      obtain ⟨als, c2, t2, h, h5, h6, h7, h9, h8⟩ := passLeavesB_wp hR hc1 hl h
      have hmem : (⟨key, m, [], i, bxJ⟩ : Lend) ∈ c2.lends := h6.lend _ (List.mem_cons.2 (.inl rfl))
      refine ⟨als, c2, t2, h, h5, e1.trans h6, ⟨⟨_, hmem, rfl, rfl⟩, h7⟩, fun g0 I0 hf => ?_⟩
      obtain ⟨h10, h11⟩ := hf.lend _ hmem
      refine ⟨hv.trans h10.symm, cs, ?_, h8 g0 I0 hf⟩
      have h10 : g0.h [i, bxJ] = g.h key := h10
      have h11 : g0.F [i, bxJ] = g.F key := h11
      rw [h10, h11, h9]
      exact hb
    | row _ _ _ => rw [hcc] at h; exact h.elim
    | fz _ _ => rw [hcc] at h; exact h.elim
    | gone => rw [hcc] at h; exact h.elim
  | one _ => exact h.elim
  | agg _ => exact h.elim
  | tup _ => exact h.elim
  | rp _ _ _ => exact h.elim
  | fn _ _ => exact h.elim
  | und => exact h.elim
  | junk => exact h.elim
theorem readLeaves_wp (hR : R n σ g I a w) : ∀ {ls : List Leaf} {vs : List Value} {c : Pass} {k : List LT → List T → Pass → Prog} {tr : Tr}, PassOk σ c → LfsR σ.k g w I ls vs →
    (readLeaves ls c k).wp cf σ tr Q → ∃ lts ds c' tr', (k lts ds c').wp cf σ tr' Q ∧ PassOk σ c' ∧ Ext c c' ∧ ∀ g0 I0, Fits σ g I g0 I0 c' → LeavesR w I0 lts vs ds
  | [], [], c, k, tr, hc, hl, h => ⟨[], [], c, tr, h, hc, Ext.refl c, fun _ _ _ => trivial⟩
  | l :: ls, v :: vs, c, k, tr, hc, hl, h => by
    have hl1 := hl.1
    obtain ⟨st, lt, d⟩ := l
    simp only [readLeaves] at h
    split at h
    · obtain ⟨hs, s', e1, h1⟩ := hl1
      cases e1
      obtain ⟨lts, ds, c', tr', h, h2, h3, h4⟩ := readLeaves_wp hR hc hl.2 h
      exact ⟨_, _, c', tr', h, h2, h3, fun g0 I0 hf => ⟨by unfold LeafR; exact h1, h4 g0 I0 hf⟩⟩
    · obtain ⟨es, rows, deps, t1, h, h1, h2, h3⟩ := viewSl_wp hR hl1 h
      obtain ⟨lts, ds, c', tr', h, h4, h5, h6⟩ := readLeaves_wp hR (hc.deps h3) hl.2 h
      refine ⟨_, _, c', tr', h, h4, (Ext.deps c deps).trans h5, fun g0 I0 hf => ⟨h1.same fun b o hb => ?_, h6 g0 I0 hf⟩⟩
      exact (hf.ext h5).dep b o (depFoot_sub (fun d hd => List.mem_append.2 (.inl hd)) b o hb)
  | [], _ :: _, _, _, _, _, hl, _ => hl.elim
  | _ :: _, [], _, _, _, _, hl, _ => hl.elim
theorem RowR.of_leaves {S A : Foot} : ∀ {es : List LT} {vs : List Value} {ds : List T} {b o : Nat}, LeavesR w S es vs ds → CellsAt w b o vs → (∀ j, j < vs.length → A b (o + j)) → RowR w A S es b o ds
  | [], [], [], b, o, _, _, _ => by unfold RowR; rfl
  | e :: es, v :: vs, d :: ds, b, o, h, hc, ha => by
    unfold RowR
    exact ⟨d, ds, v, rfl, by simpa using ha 0 (by simp), hc.1, h.1, RowR.of_leaves h.2 hc.2 fun j hj => by
      have := ha (j + 1) (by simpa using hj)
      rwa [show o + (j + 1) = o + 1 + j from by omega] at this⟩
  | [], _ :: _, _, _, _, h, _, _ => h.elim
  | [], [], _ :: _, _, _, h, _, _ => h.elim
  | _ :: _, [], _, _, _, h, _, _ => h.elim
  | _ :: _, _ :: _, [], _, _, h, _, _ => h.elim
theorem RowR.drop {S A : Foot} : ∀ {es : List LT} {b o : Nat} {row : List T} (k : Nat), RowR w A S es b o row → RowR w A S (es.drop k) b (o + k) (row.drop k)
  | es, b, o, row, 0, h => by simpa using h
  | [], b, o, row, k + 1, h => by
    unfold RowR at h
    subst h
    simp only [List.drop_nil]
    unfold RowR; rfl
  | e :: es, b, o, row, k + 1, h => by
    unfold RowR at h
    obtain ⟨d, rest, v, rfl, h2, h3, h4, h5⟩ := h
    have := RowR.drop k h5
    simpa [show o + 1 + k = o + (k + 1) from by omega] using this
theorem RowR.take {S A : Foot} : ∀ {es : List LT} {b o : Nat} {row : List T} (k : Nat), RowR w A S es b o row → RowR w A S (es.take k) b o (row.take k)
  | es, b, o, row, 0, h => by simp only [List.take_zero]; unfold RowR; rfl
  | [], b, o, row, k + 1, h => by
    unfold RowR at h
    subst h
    simp only [List.take_nil]
    unfold RowR; rfl
  | e :: es, b, o, row, k + 1, h => by
    unfold RowR at h
    obtain ⟨d, rest, v, rfl, h2, h3, h4, h5⟩ := h
    simp only [List.take_succ_cons]
    unfold RowR
    exact ⟨d, _, v, rfl, h2, h3, h4, RowR.take k h5⟩
def cutTo {α : Type} (sz : Option Nat) (l : List α) : List α := match sz with | some n => l.take n | none => l
theorem RowR.cutTo {S A : Foot} {es : List LT} {b o : Nat} {row : List T} (sz : Option Nat) (h : RowR w A S es b o row) : RowR w A S (cutTo sz es) b o (cutTo sz row) := by
  cases sz with
  | none => exact h
  | some k => exact h.take k
theorem passPtr_wp (hR : R n σ g I a w) {sz : Option Nat} {e : Ent} {v : Value} {c : Pass} {k : Arg → Pass → Prog} (hc : PassOk σ c) (he : Ent0R σ.k g w I e v) (h : (passPtr sz e c k).wp cf σ tr Q) :
    ∃ lts row c' tr', (k (.rpt lts row) c').wp cf σ tr' Q ∧ PassOk σ c' ∧ Ext c c' ∧ ∀ g0 I0, Fits σ g I g0 I0 c' → RptR w I0 lts row v := by
  cases e with
  | ptr key m r off =>
    obtain ⟨hs, hm1, hm2⟩ := he
    simp only [passPtr] at h
    obtain ⟨h3, h⟩ := h
    have hid := Nat.eq_of_beq_eq_true h3
    obtain ⟨b, o', rfl, ha⟩ := hm2 hid
    have hch := hR.chs key
    cases hcc : (σ.k key).ch with
    | gone => rw [hcc] at h; exact h.elim
    | box ls =>
      rw [hcc] at h hch ha
      obtain ⟨b', o1, cc, el, fz, hh, hblk, hsz, hfz, hF, hl⟩ := hch
      rw [hh] at ha
      simp only [addrIn, Option.some.injEq, Prod.mk.injEq] at ha
      obtain ⟨rfl, rfl⟩ := ha
      have hdl := hl.drop off
      have key1 : ∀ (ls' : List Leaf) (vs' : List Value), ls' = cutTo sz (ls.drop off) → vs' = cutTo sz (((cc.toList.drop o1).take ls.length).drop off) → LfsR σ.k g w I ls' vs' ∧ CellsAt w b' (o1 + off) vs' ∧ (∀ j, j < vs'.length → g.F key b' (o1 + off + j)) := by
        have c1 : CellsAt w b' (o1 + off) (((cc.toList.drop o1).take ls.length).drop off) := by
          refine CellsAt.of_block hblk _ _ fun j hj => ?_
          simp only [List.length_drop, List.length_take, Array.length_toList] at hj
          simp only [List.getElem_drop, List.getElem_take, Array.getElem_toList]
          rw [Array.getElem?_eq_getElem (by omega)]
          simp only [Nat.add_assoc]
        have c2 : ∀ j, j < (((cc.toList.drop o1).take ls.length).drop off).length → g.F key b' (o1 + off + j) := fun j hj => by
          simp only [List.length_drop, List.length_take, Array.length_toList] at hj
          exact (hF b' _).2 ⟨rfl, by omega, by omega⟩
        intro ls' vs' e1 e2
        subst e1; subst e2
        cases sz with
        | none => exact ⟨hdl, c1, c2⟩
        | some m => exact ⟨hdl.take m, c1.take m, fun j hj => c2 j (by simp only [cutTo, List.length_take] at hj; omega)⟩
      obtain ⟨k1, k2, k3⟩ := key1 _ _ rfl rfl
      obtain ⟨lts, ds, c', tr', h, h4, h5, h6⟩ := readLeaves_wp hR (PassOk.dep1 hc (k := key)) k1 h
      refine ⟨lts, ds, c', tr', h, h4, (Ext.dep1 c _).trans h5, fun g0 I0 hf => ⟨b', o1 + off, rfl, RowR.of_leaves (h6 g0 I0 hf) k2 fun j hj => ?_⟩⟩
      exact (hf.ext h5).dep _ _ (.inr ⟨(key, (σ.k key).cv), by simp, by simp only [hcc]; trivial, k3 j hj⟩)
    | row es ms rows =>
      rw [hcc] at h hch ha
      obtain ⟨hr, h⟩ := h
      have hr := of_decide_eq_true hr
      obtain ⟨⟨hes, hlen, hown⟩, hno⟩ := hch
      rcases hown with ⟨-, rfl, -⟩ | ⟨b', cap, cc, el, fz, hh, hcap, hmax, hblk, hsz, hfz, hF, hrows⟩
      · simp at hr
      rw [hh] at ha
      simp only [addrIn, chEsz, Option.some.injEq, Prod.mk.injEq, Nat.zero_add] at ha
      obtain ⟨rfl, rfl⟩ := ha
      refine ⟨_, _, _, _, h, hc.dep1, Ext.dep1 c _, fun g0 I0 hf => ⟨b', _, rfl, ?_⟩⟩
      have e1 : rows.getD r [] = rows[r] := by simp [hr]
      rw [e1]
      have hmul : (r + 1) * es.length ≤ cap * es.length := Nat.mul_le_mul_right _ (by omega)
      rw [Nat.add_mul, Nat.one_mul] at hmul
      have h1 := RowR.top (A := I0) (S := I0) hf.inc (hrows r hr) fun j hj => hf.dep _ _ (.inr ⟨(key, (σ.k key).cv), by simp, by simp only [hcc]; trivial, (hF b' _).2 ⟨rfl, by omega⟩⟩)
      exact (h1.drop off).cutTo sz
    | fz es rows =>
      rw [hcc] at h hch ha
      obtain ⟨hr, h⟩ := h
      have hr := of_decide_eq_true hr
      refine ⟨_, _, _, _, h, hc, Ext.refl c, fun g0 I0 hf => ⟨b, o', rfl, ?_⟩⟩
      simp only [ChR] at hch
      unfold LeafR at hch
      obtain ⟨aa, cap, rows', e1, hh, h4, h5, h6⟩ := hch
      cases e1
      rcases h6 with rfl | ⟨b1, o1, rfl, h6⟩
      · simp at hr
      rw [hh] at ha
      simp only [addrIn, chEsz, Option.some.injEq, Prod.mk.injEq] at ha
      obtain ⟨rfl, rfl⟩ := ha
      have e1 : rows.getD r [] = rows[r] := by simp [hr]
      rw [e1]
      exact (((h6 r hr).same hf.inc hf.inc).drop off).cutTo sz
  | rp deps lts row =>
    simp only [passPtr] at h
    obtain ⟨hs, h1, h2⟩ := he
    obtain ⟨h3, tr', h⟩ := depsOk_wp h
    obtain ⟨b, o', rfl, h4⟩ := h2 h3
    refine ⟨_, _, _, tr', h, hc.deps h1, Ext.deps c deps, fun g0 I0 hf => ⟨b, o', rfl, ?_⟩⟩
    have hd : ∀ b o, depFoot σ.k g I deps b o → I0 b o := fun b o hb => hf.dep b o (depFoot_sub (fun d hd => List.mem_append.2 (.inl hd)) b o hb)
    exact (h4.same hd hd).cutTo sz
  | _ => exact h.elim
theorem passCaps_wp (hR : R n σ g I a w) : ∀ {es : List Ent} {vs : List Value} {c : Pass} {k : List Arg → Pass → Prog} {tr : Tr}, PassOk σ c → Ents0R σ.k g w I es vs →
    (passCaps es c k).wp cf σ tr Q → ∃ as c' tr', (k as c').wp cf σ tr' Q ∧ PassOk σ c' ∧ Ext c c' ∧ ∀ g0 I0, Fits σ g I g0 I0 c' → CapsR w I0 as vs
  | [], [], c, k, tr, hc, hl, h => ⟨[], c, tr, h, hc, Ext.refl c, fun _ _ _ => trivial⟩
  | e :: es, v :: vs, c, k, tr, hc, hl, h => by
    obtain ⟨lts, row, c1, t1, h, h1, h2, h3⟩ := passPtr_wp hR hc hl.1 h
    obtain ⟨as, c2, t2, h, h4, h5, h6⟩ := passCaps_wp hR h1 hl.2 h
    exact ⟨_, c2, t2, h, h4, h2.trans h5, fun g0 I0 hf => ⟨⟨lts, row, rfl, h3 g0 I0 (hf.ext h5)⟩, h6 g0 I0 hf⟩⟩
  | [], _ :: _, _, _, _, _, hl, _ => hl.elim
  | _ :: _, [], _, _, _, _, hl, _ => hl.elim
def LendsIn (c : Pass) (i : Nat) : Arg → Prop
  | .one al => LendsOf c i 0 al
  | .agg als => LendsOfs c i 0 als
  | .bx als => LendsBx c i ∧ LendsOfs c i 0 als
  | _ => True
theorem cond_wp {p q : Prog} {b : Bool} (h : (cond b p q).wp cf σ tr Q) : (b = true ∧ p.wp cf σ tr Q) ∨ (b = false ∧ q.wp cf σ tr Q) := by
  cases b
  · exact .inr ⟨rfl, h⟩
  · exact .inl ⟨rfl, h⟩
theorem passOne_wp (hR : R n σ g I a w) {i : Nat} {pm : List PM} {e : Ent} {v : Value} {c : Pass} {k : Arg → Pass → Prog} (hc : PassOk σ c) (he : EntR σ.k g w I e v) (h : (passOne i pm e c k).wp cf σ tr Q) :
    ∃ x c' tr', (k x c').wp cf σ tr' Q ∧ PassOk σ c' ∧ Ext c c' ∧ LendsIn c' i x ∧ ∀ g0 I0, Fits σ g I g0 I0 c' → ArgR g0 w I0 i x v := by
  unfold passOne at h
  cases e with
  | one l =>
    obtain ⟨al, c1, t1, h, h1, h2, h3, h4⟩ := passLeaf_wp hR hc he h
    exact ⟨_, c1, t1, h, h1, h2, h3, h4⟩
  | agg ls =>
    obtain ⟨cs, rfl, he⟩ := he
    obtain ⟨als, c1, t1, h, h1, h2, h3, h4⟩ := passLeaves_wp hR hc he h
    exact ⟨_, c1, t1, h, h1, h2, h3, fun g0 I0 hf => ⟨cs, rfl, h4 g0 I0 hf⟩⟩
  | fn f caps =>
    obtain ⟨vs, rfl, he⟩ := he
    obtain ⟨as, c1, t1, h, h1, h2, h3⟩ := passCaps_wp hR hc he h
    exact ⟨_, c1, t1, h, h1, h2, trivial, fun g0 I0 hf => ⟨vs, rfl, h3 g0 I0 hf⟩⟩
  | ptr k m r off =>
    rcases cond_wp h with ⟨-, h⟩ | ⟨-, h⟩
    · obtain ⟨als, c1, t1, h, h1, h2, h3, h4⟩ := passBox_wp hR hc (e := .ptr k m r off) he h
      exact ⟨_, c1, t1, h, h1, h2, h3, h4⟩
    · obtain ⟨lts, row, c1, t1, h, h1, h2, h3⟩ := passPtr_wp hR hc (e := .ptr k m r off) he h
      exact ⟨_, c1, t1, h, h1, h2, trivial, h3⟩
  | rp ds lts row =>
    rcases cond_wp h with ⟨-, h⟩ | ⟨-, h⟩
    · exact h.elim
    · obtain ⟨lts, row, c1, t1, h, h1, h2, h3⟩ := passPtr_wp hR hc (e := .rp ds lts row) he h
      exact ⟨_, c1, t1, h, h1, h2, trivial, h3⟩
  | tup _ => rcases cond_wp h with ⟨-, h⟩ | ⟨-, h⟩ <;> exact h.elim
  | und => rcases cond_wp h with ⟨-, h⟩ | ⟨-, h⟩ <;> exact h.elim
  | junk => rcases cond_wp h with ⟨-, h⟩ | ⟨-, h⟩ <;> exact h.elim
def LendsAll (c : Pass) : Nat → List Arg → Prop
  | _, [] => True
  | i, a :: as => LendsIn c i a ∧ LendsAll c (i + 1) as
theorem LendsIn.ext {c c' : Pass} (e : Ext c c') {i : Nat} {x : Arg} (h : LendsIn c i x) : LendsIn c' i x := by
  cases x with
  | one al => exact LendsOf.ext (al := al) e h
  | agg als => exact LendsOfs.ext e h
  | bx als => obtain ⟨⟨l, h1, h2⟩, h3⟩ := h; exact ⟨⟨l, e.lend l h1, h2⟩, LendsOfs.ext e h3⟩
  | _ => trivial
theorem passAll_wp (hR : R n σ g I a w) {pms : List (List PM)} : ∀ {es : List Ent} {vs : List Value} {i : Nat} {c : Pass} {k : List Arg → Pass → Prog} {tr : Tr}, PassOk σ c → EntsR σ.k g w I es vs →
    (passAll pms i es c k).wp cf σ tr Q → ∃ as c' tr', (k as c').wp cf σ tr' Q ∧ PassOk σ c' ∧ Ext c c' ∧ LendsAll c' i as ∧ ∀ g0 I0, Fits σ g I g0 I0 c' → ArgsR g0 w I0 i as vs
  | [], [], i, c, k, tr, hc, hl, h => ⟨[], c, tr, h, hc, Ext.refl c, trivial, fun _ _ _ => trivial⟩
  | e :: es, v :: vs, i, c, k, tr, hc, hl, h => by
    obtain ⟨x, c1, t1, h, h1, h2, h3, h4⟩ := passOne_wp hR hc hl.1 h
    obtain ⟨as, c2, t2, h, h5, h6, h7, h8⟩ := passAll_wp hR h1 hl.2 h
    exact ⟨_, c2, t2, h, h5, h2.trans h6, ⟨h3.ext h6, h7⟩, fun g0 I0 hf => ⟨h4 g0 I0 (hf.ext h6), h8 g0 I0 hf⟩⟩
  | [], _ :: _, _, _, _, _, _, hl, _ => hl.elim
  | _ :: _, [], _, _, _, _, _, hl, _ => hl.elim
/-- what is owned by the one who is called was lent -/
theorem LendsOfs.mem {c : Pass} {i : Nat} : ∀ {j : Nat} {als : List AL}, LendsOfs c i j als → ∀ p ∈ alChs i j als, ∃ l ∈ c.lends, p.1 = [l.i, l.j]
  | _, [], _, p, hp => by cases hp
  | j, al :: als, h, p, hp => by
    have ih := LendsOfs.mem h.2 p
    cases al with
    | own es ms rows =>
      simp only [alChs, List.mem_cons] at hp
      rcases hp with rfl | hp
      · obtain ⟨l, h1, rfl, rfl⟩ := h.1
        exact ⟨l, h1, rfl⟩
      · exact ih hp
    | sc _ _ => exact ih hp
    | fz _ _ => exact ih hp
    | nl _ => exact ih hp
theorem LendsAll.mem {c : Pass} : ∀ {i : Nat} {as : List Arg}, LendsAll c i as → ∀ p ∈ chsAll i as, ∃ l ∈ c.lends, p.1 = [l.i, l.j]
  | _, [], _, p, hp => by cases hp
  | i, x :: as, h, p, hp => by
    simp only [chsAll, List.mem_append] at hp
    rcases hp with hp | hp
    · cases x with
      | one al => exact LendsOfs.mem (j := 0) (als := [al]) ⟨h.1, trivial⟩ p hp
      | agg als => exact LendsOfs.mem h.1 p hp
      | rpt _ _ => cases hp
      | fn _ _ => cases hp
      | bx als =>
        obtain ⟨⟨⟨l, h1, h2, h3⟩, h4⟩, -⟩ := h
        simp only [chsIn, List.mem_cons] at hp
        rcases hp with rfl | hp
        · exact ⟨l, h1, by rw [h2, h3]⟩
        · exact LendsOfs.mem h4 p hp
    · exact LendsAll.mem h.2 p hp
end
end Go.E

namespace Go.E
open Go

section
variable {Γ : Ctx} {P : Program} {cf : FuncId → List Arg → R3 Ret}
variable {n : Fr} {σ : S} {g : Gh} {I : Foot} {a : Act} {w w' : World}
variable {o : Oper} {f : FuncId} {tr : Tr} {Q : S → Tr → Prop} {K : Act → World → Prop} {Qm : Exit → Act → World → Prop}

theorem apartOk_ok {deps : List Dep} : ∀ {ls : List Lend}, apartOk deps ls = true →
    ls.Pairwise (fun x y => x.key ≠ y.key ∧ ¬ (x.i = y.i ∧ x.j = y.j)) ∧ ∀ l ∈ ls, ∀ d ∈ deps, l.key ≠ d.1
  | [], _ => ⟨.nil, fun _ h => (nomatch h)⟩
  | x :: xs, h => by
    simp only [apartOk, Bool.and_eq_true, Bool.not_eq_true'] at h
    obtain ⟨⟨h1, h2⟩, h3⟩ := h
    obtain ⟨h4, h5⟩ := apartOk_ok h3
    refine ⟨.cons (fun y hy => ⟨fun e => ?_, fun e => ?_⟩) h4, fun l hl d hd e => ?_⟩
    · have : (xs.any fun y => keyEq x.key y.key || (Nat.beq x.i y.i && Nat.beq x.j y.j)) = true := List.any_eq_true.2 ⟨y, hy, by rw [e, keyEq_self]; rfl⟩
      rw [this] at h1; cases h1
    · have : (xs.any fun y => keyEq x.key y.key || (Nat.beq x.i y.i && Nat.beq x.j y.j)) = true := List.any_eq_true.2 ⟨y, hy, by rw [e.1, e.2]; simp⟩
      rw [this] at h1; cases h1
    · rcases List.mem_cons.1 hl with rfl | hl
      · have : (deps.any fun d => keyEq l.key d.1) = true := List.any_eq_true.2 ⟨d, hd, by rw [e, keyEq_self]⟩
        rw [this] at h2; cases h2
      · exact h5 l hl d hd e
theorem findLend_mem {i j : Nat} : ∀ {ls : List Lend} {l : Lend}, findLend i j ls = some l → l ∈ ls ∧ l.i = i ∧ l.j = j
  | [], _, h => by cases h
  | x :: xs, l, h => by
    simp only [findLend] at h
    cases hb : (Nat.beq x.i i && Nat.beq x.j j) with
    | true =>
      rw [hb] at h
      cases h
      simp only [Bool.and_eq_true] at hb
      exact ⟨by simp, Nat.eq_of_beq_eq_true hb.1, Nat.eq_of_beq_eq_true hb.2⟩
    | false =>
      rw [hb] at h
      obtain ⟨h1, h2⟩ := findLend_mem h
      exact ⟨by simp [h1], h2⟩
theorem findLend_of {ls : List Lend} (hp : ls.Pairwise (fun x y => x.key ≠ y.key ∧ ¬ (x.i = y.i ∧ x.j = y.j))) {l : Lend} (hl : l ∈ ls) : findLend l.i l.j ls = some l := by
  induction hp with
  | nil => cases hl
  | @cons x xs h1 h2 ih =>
    simp only [findLend]
    rcases List.mem_cons.1 hl with rfl | hl
    · simp
    · have := (h1 l hl).2
      have hb : (Nat.beq x.i l.i && Nat.beq x.j l.j) = false := by
        cases hb : (Nat.beq x.i l.i && Nat.beq x.j l.j) with
        | false => rfl
        | true =>
          simp only [Bool.and_eq_true] at hb
          exact absurd ⟨Nat.eq_of_beq_eq_true hb.1, Nat.eq_of_beq_eq_true hb.2⟩ this
      rw [hb]
      exact ih hl
/-- what the one who is called sees under his names -/
def lendGh (g : Gh) (ls : List Lend) : Gh :=
  ⟨fun k => match k with | [i, j] => (match findLend i j ls with | some l => g.h l.key | none => .nilIface) | _ => .nilIface,
   fun k => match k with | [i, j] => (match findLend i j ls with | some l => g.F l.key | none => fun _ _ => False) | _ => fun _ _ => False⟩
def GivenBack (nd : Bool) (r : Ret) (κ κ' : Key → KE) (l : Lend) : Prop :=
  (l.j ≠ bxJ ∧ ∃ es ms rows, ownOf r l.i l.j = some (es, ms, rows) ∧ l.es = es ∧ (flatLs es || nd) = true ∧ κ' l.key = ⟨.row es ms rows, (κ l.key).idv, (κ l.key).cv + 1⟩) ∨
  (l.j ≠ bxJ ∧ ownOf r l.i l.j = none ∧ κ' l.key = ⟨.gone, (κ l.key).idv + 1, (κ l.key).cv + 1⟩) ∨
  (l.j = bxJ ∧ ∃ old rls, (κ l.key).ch = .box old ∧ bxOf r l.i = some rls ∧ rls.length = old.length ∧ κ' l.key = ⟨.box (old.map deadL), (κ l.key).idv, (κ l.key).cv + 1⟩)
theorem giveBack_wp {nd : Bool} {r : Ret} {p : Prog} : ∀ {ls : List Lend} {σ : S} {tr : Tr}, ls.Pairwise (fun x y => x.key ≠ y.key ∧ ¬ (x.i = y.i ∧ x.j = y.j)) → (giveBack nd r ls p).wp cf σ tr Q →
    ∃ σ' tr', p.wp cf σ' tr' Q ∧ σ'.s = σ.s ∧ (∀ k, (∀ l ∈ ls, l.key ≠ k) → σ'.k k = σ.k k) ∧ ∀ l ∈ ls, GivenBack nd r σ.k σ'.k l
  | [], σ, tr, _, h => ⟨σ, tr, h, rfl, fun _ _ => rfl, fun _ h => (nomatch h)⟩
  | l :: ls, σ, tr, hp, h => by
    simp only [giveBack, Prog.wp] at h
    have hne : ∀ {y : Lend}, y ∈ ls → l.key ≠ y.key ∧ ¬ (l.i = y.i ∧ l.j = y.j) := fun hy => List.rel_of_pairwise_cons hp hy
    have hp' := List.Pairwise.of_cons hp
    have step : ∀ (e : KE) (tr1 : Tr), (giveBack nd r ls p).wp cf (σ.setK l.key e) tr1 Q → ∃ σ' tr', p.wp cf σ' tr' Q ∧ σ'.s = σ.s ∧ (∀ k, (∀ x ∈ l :: ls, x.key ≠ k) → σ'.k k = σ.k k) ∧ σ'.k l.key = e ∧
        ∀ x ∈ ls, GivenBack nd r σ.k σ'.k x := by
      intro e tr1 h
      obtain ⟨σ', tr', h1, h2, h3, h4⟩ := giveBack_wp hp' h
      refine ⟨σ', tr', h1, h2, fun k hk => ?_, ?_, fun x hx => ?_⟩
      · rw [h3 k fun x hx => hk x (by simp [hx]), setK_other _ _ fun e => hk l (by simp) e.symm]
      · rw [h3 l.key fun x hx e => (hne hx).1 e.symm, setK_same]
      · have := h4 x hx
        unfold GivenBack at this ⊢
        rwa [setK_other _ _ fun e => (hne hx).1 e.symm] at this
    rcases cond_wp h with ⟨hj, h⟩ | ⟨hj, h⟩
    · have hj := Nat.eq_of_beq_eq_true hj
      cases hc : (σ.k l.key).ch with
      | box old =>
        rw [hc] at h
        simp only at h
        cases hb : bxOf r l.i with
        | none => rw [hb] at h; exact h.elim
        | some rls =>
          rw [hb] at h
          obtain ⟨hq, h⟩ := h
          obtain ⟨σ', tr', h1, h2, h3, h4, h5⟩ := step _ _ h
          refine ⟨σ', tr', h1, h2, h3, fun x hx => ?_⟩
          rcases List.mem_cons.1 hx with rfl | hx
          · exact .inr (.inr ⟨hj, old, rls, hc, hb, Nat.eq_of_beq_eq_true hq, h4⟩)
          · exact h5 x hx
      | row _ _ _ => rw [hc] at h; exact h.elim
      | fz _ _ => rw [hc] at h; exact h.elim
      | gone => rw [hc] at h; exact h.elim
    · have hj : l.j ≠ bxJ := fun e => by rw [e] at hj; simp at hj
      cases ho : ownOf r l.i l.j with
      | none =>
        rw [ho] at h
        obtain ⟨σ', tr', h1, h2, h3, h4, h5⟩ := step _ _ h
        refine ⟨σ', tr', h1, h2, h3, fun x hx => ?_⟩
        rcases List.mem_cons.1 hx with rfl | hx
        · exact .inr (.inl ⟨hj, ho, h4⟩)
        · exact h5 x hx
      | some x0 =>
        obtain ⟨es, ms, rows⟩ := x0
        rw [ho] at h
        obtain ⟨hb, h⟩ := h
        simp only [Bool.and_eq_true] at hb
        obtain ⟨σ', tr', h1, h2, h3, h4, h5⟩ := step _ _ h
        refine ⟨σ', tr', h1, h2, h3, fun x hx => ?_⟩
        rcases List.mem_cons.1 hx with rfl | hx
        · exact .inl ⟨hj, es, ms, rows, ho, LT.beqs_eq hb.1, hb.2, h4⟩
        · exact h5 x hx
theorem dead_lfs {κ : Key → KE} {gg g0 g' : Gh} {I1 I2 : Foot} : ∀ {rls : List RL} {cs : List Value} {old : List Leaf}, RlsR g0 g' w I1 rls cs → rls.length = old.length → LfsR κ gg w I2 (old.map deadL) cs
  | [], [], [], _, _ => trivial
  | r :: rls, c :: cs, l :: old, h, hl => ⟨⟨h.1, trivial⟩, dead_lfs h.2.2 (by simpa using hl)⟩
  | [], _ :: _, _, h, _ => h.elim
  | _ :: _, [], _, h, _ => h.elim
  | [], [], _ :: _, _, hl => by simp at hl
  | _ :: _, _ :: _, [], _, hl => by simp at hl
theorem BoxAt.unique {h : Value} {F F' : Foot} {m : Nat} {cs cs' : List Value} (h1 : BoxAt w h F m cs) (h2 : BoxAt w h F' m cs') : cs = cs' := by
  obtain ⟨b, o, c, el, fz, rfl, hb, -, -, -, rfl⟩ := h1
  obtain ⟨b', o', c', el', fz', e, hb', -, -, -, rfl⟩ := h2
  cases e
  unfold Block at hb hb'
  rw [hb] at hb'
  cases hb'
  rfl
theorem RowR.flat {A : Foot} {I I' : Foot} : ∀ {es : List LT} {b o : Nat} {row : List T}, flatLs es = true → RowR w A I es b o row → RowR w A I' es b o row
  | [], b, o, row, hf, h => by unfold RowR at *; exact h
  | e :: es, b, o, row, hf, h => by
    unfold flatLs at hf
    simp only [List.all_cons, Bool.and_eq_true] at hf
    unfold RowR at h ⊢
    obtain ⟨d, rest, v, h1, h2, h3, h4, h5⟩ := h
    refine ⟨d, rest, v, h1, h2, h3, ?_, RowR.flat hf.2 h5⟩
    cases e with
    | sl _ => simp at hf
    | sc s => unfold LeafR at h4 ⊢; exact h4
theorem RowOwn.flat {I I' : Foot} {es : List LT} {rows : List (List T)} {h : Value} {F : Foot} (hf : flatLs es = true) (hr : RowOwn w I es rows h F) : RowOwn w I' es rows h F := by
  obtain ⟨h0, h1, h2⟩ := hr
  refine ⟨h0, h1, h2.imp id ?_⟩
  rintro ⟨b, cap, c, el, fz, h2, h3, h4, h5, h6, h7, h8, h9⟩
  exact ⟨b, cap, c, el, fz, h2, h3, h4, h5, h6, h7, h8, fun i hi => (h9 i hi).flat hf⟩

/-- the world after a call -/
theorem R.call (hR : R n σ g I a w) {σ' : S} {I' : Foot} (L : Key → Prop) {A' : Foot} (hs : σ'.s = σ.s) (hsame : ∀ k, ¬ L k → σ'.k k = σ.k k)
    (hl : ∀ k, L k → Live (σ.k k).ch ∧ (σ'.k k).cv = (σ.k k).cv + 1 ∧ (((σ'.k k).idv = (σ.k k).idv ∧ chEsz (σ'.k k).ch = chEsz (σ.k k).ch ∧ ChR σ'.k g w' I' k (σ'.k k).ch ∧ Foot.apart (g.F k) I') ∨ ((σ'.k k).idv = (σ.k k).idv + 1 ∧ (σ'.k k).ch = .gone)))
    (hk : Keeps A' w w') (hA : ∀ b o, I b o ∨ n.A b o → A' b o) (hAL : ∀ k, ¬ L k → Live (σ.k k).ch → ∀ b o, g.F k b o → A' b o)
    (hinc : ∀ b o, I b o → I' b o) (himm : ∀ k, ¬ L k → Live (σ.k k).ch → Foot.apart (g.F k) I') (hiwf : ∀ b o, I' b o → ∃ v, cellAt w' b o = some v) (hia : ∀ b o, I' b o → I b o ∨ ¬ n.A b o) :
    R n σ' g I' a w' ∧ Evo σ.k g w I σ'.k g w' I' := by
  have live : ∀ k, Live (σ'.k k).ch → Live (σ.k k).ch := fun k h => by
    by_cases hL : L k
    · exact (hl k hL).1
    · rwa [hsame k hL] at h
  have ev : Evo σ.k g w I σ'.k g w' I' := by
    refine ⟨fun k => ?_, fun k => ?_, fun k hcv hlv b o hf => ?_, fun k hid => ?_, fun b o hi => ⟨hinc b o hi, hk.cell (hA b o (.inl hi)) (hR.iwf b o hi)⟩⟩
    · by_cases hL : L k
      · rw [(hl k hL).2.1]; omega
      · rw [hsame k hL]; exact Nat.le_refl _
    · by_cases hL : L k
      · rcases (hl k hL).2.2 with h | h
        · rw [h.1]; exact Nat.le_refl _
        · rw [h.1]; omega
      · rw [hsame k hL]; exact Nat.le_refl _
    · by_cases hL : L k
      · have := (hl k hL).2.1; omega
      · rw [hsame k hL]
        exact ⟨.inl ⟨hlv, hf⟩, hk.cell (hAL k hL hlv b o hf) (live_cell hR hlv hf)⟩
    · by_cases hL : L k
      · rcases (hl k hL).2.2 with h | h
        · exact ⟨rfl, h.2.1⟩
        · have := h.1; omega
      · rw [hsame k hL]; exact ⟨rfl, rfl⟩
  refine ⟨⟨hR.size, hR.nd, fun t => ?_, fun k => ?_, fun k k' h h' hne => hR.sep k k' (live k h) (live k' h') hne, fun k h => ?_, hiwf, hR.x.step (hk.weaken fun b o h => hA b o (.inr h)) (fun k h => .inl ⟨live k h, rfl, rfl⟩) hia⟩, ev⟩
  · rw [hs]; exact ev.ent (hR.slots t)
  · by_cases hL : L k
    · rcases (hl k hL).2.2 with h | h
      · exact h.2.2.1
      · rw [h.2]; trivial
    · rw [hsame k hL]
      exact ChR.keep ev hk (fun h b o hf => hAL k hL h b o hf) rfl rfl (hR.chs k)
  · by_cases hL : L k
    · rcases (hl k hL).2.2 with h1 | h1
      · exact h1.2.2.2
      · rw [h1.2] at h; exact h.elim
    · rw [hsame k hL] at h
      exact himm k hL h

/-! what comes back -/
structure Back (n : Fr) (c : Pass) (κ1 : Key → KE) (g1 g0 g' : Gh) (I' I2 : Foot) (w : World) (ks : List Key) : Prop where
  leaf : ∀ lt v d, LeafR w I' lt v d → LeafR w (depFoot κ1 g1 I2 c.deps) lt v d
  old : Old κ1 c.deps
  lend : ∀ l ∈ c.lends, l.idv ≤ (κ1 l.key).idv ∧ g0.h [l.i, l.j] = g1.h l.key
  sep : ∀ k k', k ∈ ks → k' ∈ ks → k ≠ k' → Foot.apart (g'.F k) (g'.F k')
  imm : ∀ k ∈ ks, Foot.apart (g'.F k) I2
  frm : ∀ k ∈ ks, Foot.apart (g'.F k) n.A
  row : ∀ es rows v F, (flatLs es || c.deps.isEmpty) = true → RowOwn w I' es rows v F → RowOwn w I2 es rows v F
def Away (σ : S) (g g' : Gh) (ks : List Key) : Prop := ∀ k ∈ ks, ∀ u, Live (σ.k u).ch → Foot.apart (g.F u) (g'.F k)
theorem backLeaf_wp {κ1 : Key → KE} {g1 g0 g' : Gh} {I' I2 : Foot} {ks : List Key} {c : Pass} (hB : Back n c κ1 g1 g0 g' I' I2 w ks) {key : Key} (hkp : ¬ isPar n.np key) {rl : RL} {v : Value} {k : Leaf → Prog} {rest : List Key}
    (hR : R n σ g I2 a w) (ev : Evo κ1 g1 w I2 σ.k g w I2) (hs : Single v) (hv : RlR g0 g' w I' rl v) (hsub : ∀ x ∈ keysOfL rl ++ rest, x ∈ ks) (hnd : (keysOfL rl ++ rest).Nodup) (haw : Away σ g g' (keysOfL rl ++ rest))
    (h : (backLeaf c key rl k).wp cf σ tr Q) :
    ∃ l σ' gg tr', (k l).wp cf σ' tr' Q ∧ R n σ' gg I2 a w ∧ Evo σ.k g w I2 σ'.k gg w I2 ∧ σ'.s = σ.s ∧ LfR σ'.k gg w I2 l v ∧ Away σ' gg g' rest := by
  cases rl with
  | sc s d => exact ⟨_, σ, g, tr, h, hR, Evo.refl, rfl, ⟨hs, s, rfl, hv⟩, fun k hk => haw k (by simp [hk])⟩
  | nl es => exact ⟨_, σ, g, tr, h, hR, Evo.refl, rfl, ⟨hs, trivial, hv, rfl⟩, fun k hk => haw k (by simp [hk])⟩
  | fz es rows =>
    refine ⟨_, σ, g, tr, h, hR, Evo.refl, rfl, ?_, fun k hk => haw k (by simp [hk])⟩
    have h1 : LfR κ1 g1 w I2 ⟨.sn c.deps, .sl es, .l rows⟩ v := ⟨hs, trivial, hB.old, fun _ => hB.leaf _ _ _ hv⟩
    exact ev.lf h1
  | org => exact h.elim
  | par i j =>
    obtain ⟨l, hl, h9⟩ := ofOpt_wp h
    clear h
    obtain ⟨hl1, rfl, rfl⟩ := findLend_mem hl
    obtain ⟨h1, h2⟩ := hB.lend l hl1
    refine ⟨_, σ, g, tr, h9, hR, Evo.refl, rfl, ?_, fun k hk => haw k (by simp [hk])⟩
    have hv' : v = g0.h [l.i, l.j] := hv
    have h1 : LfR κ1 g1 w I2 ⟨.al l.key l.idv, .sl l.es, .l []⟩ v := ⟨hs, trivial, h1, fun _ => hv'.trans h2⟩
    exact ev.lf h1
  | own k' es ms rows =>
    obtain ⟨hf, h⟩ := h
    obtain ⟨hv1, hv2, hv3⟩ := hv
    simp only [keysOfL, List.cons_append, List.nil_append] at hsub hnd haw
    have hk' := hsub k' (by simp)
    have hrow := hB.row _ _ _ _ hf hv2
    let e : KE := ⟨.row es ms rows, (σ.k key).idv + 1, (σ.k key).cv + 1⟩
    have hz : ∀ u, Live (σ.k u).ch → Foot.apart (g.F u) (g'.F k') := haw k' (by simp)
    have hR' := hR.renew key e v (g'.F k') (g'.F k') (by simp [e]) (by simp [e]) (w' := w) (Keeps.refl _ _) hz (hB.imm k' hk') (hB.frm k' hk') hkp (fun _ _ h => .inl h)
      (by simp only [e, ChR, Gh.set_h, Gh.set_F]; exact ⟨hrow, hv3⟩)
    have ev' := evo_renew hR key e v (g'.F k') (g'.F k') (by simp [e]) (by simp [e]) (w' := w) (Keeps.refl _ _) hz (hB.imm k' hk')
    refine ⟨_, _, _, _, h, hR', ev', rfl, ⟨hs, trivial, ?_, fun _ => ?_⟩, fun x hx u hu => ?_⟩
    · rw [setK_same]; exact Nat.le_refl _
    · rw [Gh.set_h]
    · by_cases huk : u = key
      · subst huk
        rw [Gh.set_F]
        exact hB.sep k' x hk' (hsub x (by simp [hx])) fun e => (List.nodup_cons.1 hnd).1 (e ▸ hx)
      · rw [setK_other _ _ huk] at hu
        rw [Gh.set_F' _ _ _ huk]
        exact haw x (by simp [hx]) u hu
theorem keysOfR_agg (ls : List RL) : keysOfR (.agg ls) = ls.flatMap keysOfL := by
  simp only [keysOfR]
  induction ls with
  | nil => rfl
  | cons l ls ih => cases l <;> simp [keysOfL, ih]
theorem keysOfR_one (l : RL) : keysOfR (.one l) = keysOfL l := by cases l <;> rfl
theorem backLeaves_wp {κ1 : Key → KE} {g1 g0 g' : Gh} {I' I2 : Foot} {ks : List Key} {c : Pass} (hB : Back n c κ1 g1 g0 g' I' I2 w ks) {dst q : Nat} (hkp : ∀ r, ¬ isPar n.np ((dst + 2000000) :: r)) {rest : List Key} :
    ∀ {rls : List RL} {vs : List Value} {j : Nat} {k : List Leaf → Prog} {σ : S} {g : Gh} {tr : Tr}, R n σ g I2 a w → Evo κ1 g1 w I2 σ.k g w I2 → RlsR g0 g' w I' rls vs → (∀ x ∈ rls.flatMap keysOfL ++ rest, x ∈ ks) → (rls.flatMap keysOfL ++ rest).Nodup →
      Away σ g g' (rls.flatMap keysOfL ++ rest) → (backLeaves c dst q j rls k).wp cf σ tr Q →
      ∃ ls σ' gg tr', (k ls).wp cf σ' tr' Q ∧ R n σ' gg I2 a w ∧ Evo σ.k g w I2 σ'.k gg w I2 ∧ σ'.s = σ.s ∧ LfsR σ'.k gg w I2 ls vs ∧ Away σ' gg g' rest
  | [], [], j, k, σ, g, tr, hR, ev, hv, hsub, hnd, haw, h => ⟨[], σ, g, tr, h, hR, Evo.refl, rfl, trivial, by simpa using haw⟩
  | rl :: rls, v :: vs, j, k, σ, g, tr, hR, ev, hv, hsub, hnd, haw, h => by
    simp only [List.flatMap_cons, List.append_assoc] at hsub hnd haw
    obtain ⟨l, σ1, gg1, t1, h, h1, h2, h3, h4, h5⟩ := backLeaf_wp hB (hkp _) hR ev hv.1 hv.2.1 hsub hnd haw h
    obtain ⟨ls, σ2, gg2, t2, h, h6, h7, h8, h9, h10⟩ := backLeaves_wp hB hkp h1 (ev.trans h2) hv.2.2 (fun x hx => hsub x (List.mem_append.2 (.inr hx))) (List.nodup_append.1 hnd).2.1 h5 h
    exact ⟨_, σ2, gg2, t2, h, h6, h2.trans h7, h8.trans h3, ⟨h7.lf h4, h9⟩, h10⟩
  | [], _ :: _, _, _, _, _, _, _, _, hv, _, _, _, _ => hv.elim
  | _ :: _, [], _, _, _, _, _, _, _, hv, _, _, _, _ => hv.elim
theorem backRes_wp {κ1 : Key → KE} {g1 g0 g' : Gh} {I' I2 : Foot} {ks : List Key} {c : Pass} (hB : Back n c κ1 g1 g0 g' I' I2 w ks) {dst : Nat} (hkp : ∀ r, ¬ isPar n.np ((dst + 2000000) :: r)) :
    ∀ {rs : List RE} {vs : List Value} {q : Nat} {k : List Ent → Prog} {σ : S} {g : Gh} {tr : Tr}, R n σ g I2 a w → Evo κ1 g1 w I2 σ.k g w I2 → ResR g0 g' w I' rs vs → (∀ x ∈ rs.flatMap keysOfR, x ∈ ks) → (rs.flatMap keysOfR).Nodup →
      Away σ g g' (rs.flatMap keysOfR) → (backRes c dst q rs k).wp cf σ tr Q →
      ∃ es σ' gg tr', (k es).wp cf σ' tr' Q ∧ R n σ' gg I2 a w ∧ Evo σ.k g w I2 σ'.k gg w I2 ∧ σ'.s = σ.s ∧ Ents0R σ'.k gg w I2 es vs
  | [], [], q, k, σ, g, tr, hR, ev, hv, hsub, hnd, haw, h => ⟨[], σ, g, tr, h, hR, Evo.refl, rfl, trivial⟩
  | .one rl :: rs, v :: vs, q, k, σ, g, tr, hR, ev, hv, hsub, hnd, haw, h => by
    simp only [List.flatMap_cons, keysOfR_one] at hsub hnd haw
    simp only [backRes] at h
    obtain ⟨l, σ1, gg1, t1, h, h1, h2, h3, h4, h5⟩ := backLeaf_wp hB (hkp _) hR ev hv.1.1 hv.1.2 hsub hnd haw h
    obtain ⟨ls, σ2, gg2, t2, h, h6, h7, h8, h9⟩ := backRes_wp hB hkp h1 (ev.trans h2) hv.2 (fun x hx => hsub x (List.mem_append.2 (.inr hx))) (List.nodup_append.1 hnd).2.1 h5 h
    exact ⟨_, σ2, gg2, t2, h, h6, h2.trans h7, h8.trans h3, ⟨h7.lf h4, h9⟩⟩
  | .agg rls :: rs, v :: vs, q, k, σ, g, tr, hR, ev, hv, hsub, hnd, haw, h => by
    simp only [List.flatMap_cons, keysOfR_agg] at hsub hnd haw
    simp only [backRes] at h
    obtain ⟨⟨cs, rfl, hv1⟩, hv2⟩ := hv
    obtain ⟨l, σ1, gg1, t1, h, h1, h2, h3, h4, h5⟩ := backLeaves_wp hB hkp hR ev hv1 hsub hnd haw h
    obtain ⟨ls, σ2, gg2, t2, h, h6, h7, h8, h9⟩ := backRes_wp hB hkp h1 (ev.trans h2) hv2 (fun x hx => hsub x (List.mem_append.2 (.inr hx))) (List.nodup_append.1 hnd).2.1 h5 h
    exact ⟨_, σ2, gg2, t2, h, h6, h2.trans h7, h8.trans h3, ⟨⟨cs, rfl, h7.lfs h4⟩, h9⟩⟩
  | .bx k' rls :: rs, v :: vs, q, k, σ, g, tr, hR, ev, hv, hsub, hnd, haw, h => by
    have ek : (RE.bx k' rls :: rs).flatMap keysOfR = k' :: (rls.flatMap keysOfL ++ rs.flatMap keysOfR) := rfl
    rw [ek] at hsub hnd haw
    obtain ⟨hnd0, hnd1⟩ := List.nodup_cons.1 hnd
    simp only [backRes] at h
    obtain ⟨⟨hvp, cs, hat, hv1⟩, hv2⟩ := hv
    have hkps := hsub k' (by simp)
    have hnd2 : (rls.flatMap keysOfL ++ (rs.flatMap keysOfR ++ [k'])).Nodup := by
      rw [← List.append_assoc]
      exact List.nodup_append.2 ⟨hnd1, by simp, fun x hx y hy e => by
        simp only [List.mem_cons, List.not_mem_nil, or_false] at hy
        subst hy; subst e; exact hnd0 hx⟩
    have hmem : ∀ x, x ∈ rls.flatMap keysOfL ++ (rs.flatMap keysOfR ++ [k']) → x ∈ k' :: (rls.flatMap keysOfL ++ rs.flatMap keysOfR) := fun x hx => by
      simp only [List.mem_append, List.mem_cons, List.not_mem_nil, or_false] at hx ⊢
      rcases hx with h | h | h <;> simp [h]
    obtain ⟨l, σ1, gg1, t1, h, h1, h2, h3, h4, h5⟩ := backLeaves_wp hB hkp hR ev hv1 (fun x hx => hsub x (hmem x hx)) hnd2 (fun x hx => haw x (hmem x hx)) h
    obtain ⟨hq, h⟩ := h
    simp only [Bool.and_eq_true] at hq
    have hlen := Nat.eq_of_beq_eq_true hq.1
    simp only [Prog.wp] at h
    let key : Key := [dst + 2000000, q, bxJ]
    let e : KE := ⟨.box l, (σ1.k key).idv + 1, (σ1.k key).cv + 1⟩
    have hz : ∀ u, Live (σ1.k u).ch → Foot.apart (gg1.F u) (g'.F k') := h5 k' (by simp)
    have hvs : Single v := by
      obtain ⟨b, o, c, el, fz, e1, -⟩ := hat
      rw [hvp, e1]; exact ⟨fun _ h => (nomatch h), fun _ h => (nomatch h)⟩
    have ev' := evo_renew h1 key e v (g'.F k') (g'.F k') (by simp [e]) (by simp [e]) (w' := w) (Keeps.refl _ _) hz (hB.imm k' hkps)
    have hR' := h1.renew key e v (g'.F k') (g'.F k') (by simp [e]) (by simp [e]) (w' := w) (Keeps.refl _ _) hz (hB.imm k' hkps) (hB.frm k' hkps) (hkp _) (fun _ _ h => .inl h)
      (by
        simp only [e, ChR, Gh.set_h, Gh.set_F]
        refine BoxAt.own (cs := cs) ?_ (ev'.lfs h4)
        rw [hlen, hvp]; exact hat)
    have haw' : Away (σ1.setK key e) (gg1.set key v (g'.F k')) g' (rs.flatMap keysOfR) := fun x hx u hu => by
      by_cases huk : u = key
      · subst huk
        rw [Gh.set_F]
        exact hB.sep k' x hkps (hsub x (by simp [hx])) fun e => hnd0 (by rw [e]; simp [hx])
      · rw [setK_other _ _ huk] at hu
        rw [Gh.set_F' _ _ _ huk]
        exact h5 x (by simp [hx]) u hu
    obtain ⟨ls, σ2, gg2, t2, h, h6, h7, h8, h9⟩ := backRes_wp hB hkp hR' ((ev.trans h2).trans ev') hv2 (fun x hx => hsub x (by simp [hx])) (List.nodup_append.1 hnd1).2.1 haw' h
    refine ⟨_, σ2, gg2, t2, h, h6, (h2.trans ev').trans h7, h8.trans h3, ⟨h7.ent0 ?_, h9⟩⟩
    refine ⟨hvs, ?_, fun _ => ?_⟩
    · rw [setK_same]; exact Nat.le_refl _
    · obtain ⟨b, o, c, el, fz, e1, -⟩ := hat
      refine ⟨b, o, hvp.trans e1, ?_⟩
      rw [Gh.set_h, hvp, e1]; rfl
  | .none :: _, _ :: _, _, _, _, _, _, _, _, hv, _, _, _, _ => hv.1.elim
  | [], _ :: _, _, _, _, _, _, _, _, hv, _, _, _, _ => hv.elim
  | _ :: _, [], _, _, _, _, _, _, _, hv, _, _, _, _ => hv.elim
theorem bx_nd : ∀ {bs : List (Option (List RL))}, (bs.flatMap keysOfB).Nodup → (∀ i, (keysOfB (bs.getD i none)).Nodup ∧ ∀ x ∈ keysOfB (bs.getD i none), x ∈ bs.flatMap keysOfB) ∧
    ∀ i i', i ≠ i' → ∀ x ∈ keysOfB (bs.getD i none), x ∉ keysOfB (bs.getD i' none)
  | [], _ => ⟨fun i => ⟨by simp [keysOfB], fun x hx => by simp [keysOfB] at hx⟩, fun i i' _ x hx => by simp [keysOfB] at hx⟩
  | b :: bs, h => by
    simp only [List.flatMap_cons] at h ⊢
    obtain ⟨h1, h2, h3⟩ := List.nodup_append.1 h
    obtain ⟨h4, h5⟩ := bx_nd h2
    refine ⟨fun i => ?_, fun i i' hi x hx hx' => ?_⟩
    · cases i with
      | zero => exact ⟨h1, fun x hx => List.mem_append.2 (.inl hx)⟩
      | succ i => exact ⟨(h4 i).1, fun x hx => List.mem_append.2 (.inr ((h4 i).2 x hx))⟩
    · cases i with
      | zero =>
        cases i' with
        | zero => exact hi rfl
        | succ i' => exact h3 x hx x ((h4 i').2 x hx') rfl
      | succ i =>
        cases i' with
        | zero => exact h3 x hx' x ((h4 i).2 x hx) rfl
        | succ i' => exact h5 i i' (fun e => hi (by rw [e])) x hx hx'
def bk (r : Ret) (ls : List Lend) : List Key := ls.flatMap fun l => cond (Nat.beq l.j bxJ) (keysOfB (bxOf r l.i)) []
theorem bk_mem {r : Ret} {ls : List Lend} {x : Key} (h : x ∈ bk r ls) : ∃ l ∈ ls, l.j = bxJ ∧ x ∈ keysOfB (bxOf r l.i) := by
  obtain ⟨l, h1, h2⟩ := List.mem_flatMap.1 h
  cases hj : Nat.beq l.j bxJ with
  | false => rw [hj] at h2; cases h2
  | true => rw [hj] at h2; exact ⟨l, h1, Nat.eq_of_beq_eq_true hj, h2⟩
theorem bk_nd {r : Ret} (h : (retKeys r).Nodup) {ls : List Lend} (hp : ls.Pairwise (fun x y => x.key ≠ y.key ∧ ¬ (x.i = y.i ∧ x.j = y.j))) :
    (bk r ls ++ r.rs.flatMap keysOfR).Nodup ∧ ∀ x ∈ bk r ls ++ r.rs.flatMap keysOfR, x ∈ retKeys r := by
  unfold retKeys at h ⊢
  obtain ⟨h1, h2, h3⟩ := List.nodup_append.1 h
  obtain ⟨h4, h5⟩ := bx_nd h2
  have hm : ∀ x ∈ bk r ls, x ∈ r.bxs.flatMap keysOfB := fun x hx => by
    obtain ⟨l, -, -, h6⟩ := bk_mem hx
    exact (h4 l.i).2 x h6
  have hn : (bk r ls).Nodup := by
    induction hp with
    | nil => exact List.nodup_nil
    | @cons l ls' h6 h7 ih =>
      show ((cond (Nat.beq l.j bxJ) (keysOfB (bxOf r l.i)) []) ++ bk r ls').Nodup
      have ih := ih fun x hx => by
        obtain ⟨l, -, -, h6⟩ := bk_mem hx
        exact (h4 l.i).2 x h6
      cases hj : Nat.beq l.j bxJ with
      | false => exact ih
      | true =>
        have hj := Nat.eq_of_beq_eq_true hj
        refine List.nodup_append.2 ⟨(h4 l.i).1, ih, fun x hx y hy e => ?_⟩
        subst e
        obtain ⟨l', h8, h9, h10⟩ := bk_mem hy
        exact h5 l.i l'.i (fun e => (h6 l' h8).2 ⟨e, hj.trans h9.symm⟩) x hx h10
  refine ⟨List.nodup_append.2 ⟨hn, h1, fun x hx y hy e => ?_⟩, fun x hx => ?_⟩
  · subst e
    exact h3 x hy x (hm x hx) rfl
  · rcases List.mem_append.1 hx with hx | hx
    · exact List.mem_append.2 (.inr (hm x hx))
    · exact List.mem_append.2 (.inl hx)
theorem backBoxes_wp {κ1 : Key → KE} {g1 g0 g' : Gh} {I' I2 : Foot} {ks : List Key} {c : Pass} (hB : Back n c κ1 g1 g0 g' I' I2 w ks) {dst : Nat} (hkp : ∀ r, ¬ isPar n.np ((dst + 2000000) :: r)) {r : Ret} {rest : List Key} {p : Prog} :
    ∀ {ls : List Lend} {σ : S} {g : Gh} {tr : Tr}, (∀ l ∈ ls, l.j = bxJ → l.idv = (κ1 l.key).idv ∧ ∀ rls, bxOf r l.i = some rls → ∃ cs F, BoxAt w (g1.h l.key) F rls.length cs ∧ RlsR g0 g' w I' rls cs) → R n σ g I2 a w → Evo κ1 g1 w I2 σ.k g w I2 →
      (∀ x ∈ bk r ls ++ rest, x ∈ ks) → (bk r ls ++ rest).Nodup → Away σ g g' (bk r ls ++ rest) → (backBoxes c dst r ls p).wp cf σ tr Q →
      ∃ σ' gg tr', p.wp cf σ' tr' Q ∧ R n σ' gg I2 a w ∧ Evo σ.k g w I2 σ'.k gg w I2 ∧ σ'.s = σ.s ∧ Away σ' gg g' rest
  | [], σ, g, tr, hbx, hR, ev, hsub, hnd, haw, h => ⟨σ, g, tr, h, hR, Evo.refl, rfl, by simpa [bk] using haw⟩
  | l :: ls, σ, g, tr, hbx, hR, ev, hsub, hnd, haw, h => by
    simp only [backBoxes] at h
    have ebk : bk r (l :: ls) = (cond (Nat.beq l.j bxJ) (keysOfB (bxOf r l.i)) []) ++ bk r ls := rfl
    have hbx' : ∀ x ∈ ls, x.j = bxJ → x.idv = (κ1 x.key).idv ∧ ∀ rls, bxOf r x.i = some rls → ∃ cs F, BoxAt w (g1.h x.key) F rls.length cs ∧ RlsR g0 g' w I' rls cs := fun x hx => hbx x (by simp [hx])
    rcases cond_wp h with ⟨hj, h⟩ | ⟨hj, h⟩
    · rw [ebk, hj] at hsub hnd haw
      have hj := Nat.eq_of_beq_eq_true hj
      obtain ⟨hid, hbx1⟩ := hbx l (by simp) hj
      cases hb : bxOf r l.i with
      | none => rw [hb] at h; exact h.elim
      | some rls =>
        rw [hb] at h hsub hnd haw
        simp only [cond_true, keysOfB, List.append_assoc] at hsub hnd haw
        obtain ⟨cs, F, hat, hrl⟩ := hbx1 rls hb
        obtain ⟨xs, σ1, g2, t1, h, hR1, ev1, hs1, hl1, haw1⟩ := backLeaves_wp hB hkp hR ev hrl hsub hnd haw h
        simp only [Prog.wp] at h
        cases hc : (σ1.k l.key).ch with
        | box old =>
          rw [hc] at h
          obtain ⟨hq, h⟩ := h
          simp only [Bool.and_eq_true] at hq
          have hq1 := Nat.eq_of_beq_eq_true hq.1
          have hq2 := Nat.eq_of_beq_eq_true hq.2
          have hlive : Live (σ1.k l.key).ch := by rw [hc]; trivial
          have hh : g2.h l.key = g1.h l.key := ((ev.trans ev1).head l.key (hq1.trans hid)).1
          have hch := hR1.chs l.key
          rw [hc] at hch
          obtain ⟨cs', hat', -⟩ := BoxOwn.at hch
          have hlen : rls.length = xs.length := by
            have e1 : ∀ {rls : List RL} {vs : List Value}, RlsR g0 g' w I' rls vs → rls.length = vs.length := by
              intro rls
              induction rls with
              | nil => intro vs h; cases vs with | nil => rfl | cons _ _ => exact h.elim
              | cons r rls ih => intro vs h; cases vs with | nil => exact h.elim | cons v vs => simp [ih h.2.2]
            have e2 : ∀ {ls : List Leaf} {vs : List Value}, LfsR σ1.k g2 w I2 ls vs → ls.length = vs.length := by
              intro ls
              induction ls with
              | nil => intro vs h; cases vs with | nil => rfl | cons _ _ => exact h.elim
              | cons r rls ih => intro vs h; cases vs with | nil => exact h.elim | cons v vs => simp [ih h.2]
            rw [e1 hrl, e2 hl1]
          rw [hh, ← hq2, ← hlen] at hat'
          have ecs := BoxAt.unique hat hat'
          subst ecs
          let e : KE := ⟨.box xs, (σ1.k l.key).idv, (σ1.k l.key).cv + 1⟩
          have hk : Keeps (fun b o => ¬ g2.F l.key b o) w w := Keeps.refl _ _
          have ev2 := evo_write hR1 (e := e) hlive rfl (Nat.lt_succ_self _) (by rw [hc]; rfl) hk
          have hR2 := hR1.write (e := e) hlive rfl (Nat.lt_succ_self _) (by rw [hc]; rfl) hk (by
            show BoxOwn _ _ _ _ xs _ _
            refine BoxAt.own (cs := cs) ?_ (ev2.lfs hl1)
            rw [hh, ← hlen]; exact hat')
          obtain ⟨σ', gg, tr', h, hR', ev', hs', haw'⟩ := backBoxes_wp hB hkp hbx' hR2 ((ev.trans ev1).trans ev2) (fun x hx => hsub x (List.mem_append.2 (.inr hx))) (List.nodup_append.1 hnd).2.1 (fun x hx u hu => by
            refine haw1 x hx u ?_
            by_cases huk : u = l.key
            · subst huk; exact hlive
            · rwa [setK_other _ _ huk] at hu) h
          exact ⟨σ', gg, tr', h, hR', (ev1.trans ev2).trans ev', hs'.trans hs1, haw'⟩
        | row _ _ _ => rw [hc] at h; exact h.elim
        | fz _ _ => rw [hc] at h; exact h.elim
        | gone => rw [hc] at h; exact h.elim
    · rw [ebk, hj] at hsub hnd haw
      exact backBoxes_wp hB hkp hbx' hR ev hsub hnd haw h
end
end Go.E

namespace Go.E
open Go

section
variable {Γ : Ctx} {P : Program} {cf : FuncId → List Arg → R3 Ret}
variable {n : Fr} {σ : S} {g : Gh} {I : Foot} {a : Act} {w w' : World}
variable {o : Oper} {f : FuncId} {tr : Tr} {Q : S → Tr → Prop} {K : Act → World → Prop} {Qm : Exit → Act → World → Prop}

def CfOk (Γ : Ctx) (P : Program) (cf : FuncId → List Arg → R3 Ret) : Prop := ∀ f args, (Γ.fn f).isSome = true → cf f args ≠ .bad → FnOk P f args (cf f args)

theorem EntsR.app : ∀ {es es' : List Ent} {vs vs' : List Value}, EntsR σ.k g w I es vs → EntsR σ.k g w I es' vs' → EntsR σ.k g w I (es ++ es') (vs ++ vs')
  | [], _, [], _, _, h => h
  | _ :: _, _, _ :: _, _, h, h' => ⟨h.1, EntsR.app h.2 h'⟩
  | [], _, _ :: _, _, h, _ => h.elim
  | _ :: _, _, [], _, h, _ => h.elim
theorem Ent0R.ent {e : Ent} {v : Value} (h : Ent0R σ.k g w I e v) : EntR σ.k g w I e v := by
  cases e with
  | tup _ => exact h.elim
  | fn _ _ => exact h.elim
  | _ => exact h
theorem Ents0R.ents : ∀ {es : List Ent} {vs : List Value}, Ents0R σ.k g w I es vs → EntsR σ.k g w I es vs
  | [], [], _ => trivial
  | _ :: _, _ :: _, h => ⟨h.1.ent, Ents0R.ents h.2⟩
  | [], _ :: _, h => h.elim
  | _ :: _, [], h => h.elim
theorem oneEnt_ok {xs : List Ent} {vs : List Value} (h : Ents0R σ.k g w I xs vs) : EntR σ.k g w I (oneEnt xs) (oneV vs) := by
  match xs, vs, h with
  | [x], [v], h => exact h.1.ent
  | [], [], h => exact ⟨#[], rfl, trivial⟩
  | x :: y :: xs, v :: u :: vs, h => exact ⟨(v :: u :: vs).toArray, rfl, h⟩
  | [], _ :: _, h => exact h.elim
  | [_], [], h => exact h.elim
  | [_], _ :: _ :: _, h => exact h.2.elim
  | _ :: _ :: _, [], h => exact h.elim
  | _ :: _ :: _, [_], h => exact h.2.elim

theorem pw_key {ls : List Lend} (hp : ls.Pairwise (fun x y => x.key ≠ y.key ∧ ¬ (x.i = y.i ∧ x.j = y.j))) {l l' : Lend} (hl : l ∈ ls) (hl' : l' ∈ ls) (h : l.key = l'.key) : l.i = l'.i ∧ l.j = l'.j := by
  induction hp with
  | nil => cases hl
  | @cons x xs h1 h2 ih =>
    rcases List.mem_cons.1 hl with rfl | hl
    · rcases List.mem_cons.1 hl' with rfl | hl'
      · exact ⟨rfl, rfl⟩
      · exact absurd h (h1 l' hl').1
    · rcases List.mem_cons.1 hl' with rfl | hl'
      · exact absurd h.symm (h1 l (by assumption)).1
      · exact ih hl hl'
/-- what the one who is called may not touch -/
def keepA (n : Fr) (σ : S) (g : Gh) (I : Foot) (c : Pass) : Foot := fun b o => (I b o ∨ n.A b o ∨ ∃ k, Live (σ.k k).ch ∧ g.F k b o) ∧ ¬ ∃ l ∈ c.lends, g.F l.key b o
theorem call_pre (hR : R n σ g I a w) {args : List Arg} {c : Pass} {vs : List Value} (hc : PassOk σ c) (ha : apartOk c.deps c.lends = true) (hl : LendsAll c 0 args)
    (hargs : ∀ g0 I0, Fits σ g I g0 I0 c → ArgsR g0 w I0 0 args vs) : Pre (lendGh g c.lends) (depFoot σ.k g I c.deps) (keepA n σ g I c) args w vs.toArray := by
  obtain ⟨h1, h2⟩ := apartOk_ok ha
  have hlive : ∀ l ∈ c.lends, Live (σ.k l.key).ch := fun l hl => by
    obtain ⟨-, ⟨-, ls, h⟩ | ⟨-, ms, rows, h⟩⟩ := hc.lend l hl <;> rw [h] <;> trivial
  have hG : ∀ l ∈ c.lends, (lendGh g c.lends).h [l.i, l.j] = g.h l.key ∧ (lendGh g c.lends).F [l.i, l.j] = g.F l.key := fun l hl => by
    simp only [lendGh, findLend_of h1 hl]
    exact ⟨trivial, trivial⟩
  have hheld : ∀ k, Held args k → ∃ l ∈ c.lends, k = [l.i, l.j] := fun k hk => by
    unfold Held at hk
    rcases findCh_mem k (chsAll 0 args) with h | ⟨ch, h, -⟩
    · rw [h] at hk; exact hk.elim
    · exact hl.mem _ h
  refine ⟨by simpa using hargs _ _ ⟨hG, fun _ _ h => h⟩, fun k k' hk hk' hne => ?_, fun k hk => ?_, fun k hk => ?_, fun b o hb => ?_, fun b o hb => ?_⟩
  · obtain ⟨l, hl, rfl⟩ := hheld k hk
    obtain ⟨l', hl', rfl⟩ := hheld k' hk'
    rw [(hG l hl).2, (hG l' hl').2]
    refine hR.sep _ _ (hlive l hl) (hlive l' hl') fun e => ?_
    obtain ⟨e1, e2⟩ := pw_key h1 hl hl' e
    exact hne (by rw [e1, e2])
  · obtain ⟨l, hl, rfl⟩ := hheld k hk
    rw [(hG l hl).2]
    intro b o hf hd
    rcases hd with hd | ⟨d, hd, hd1, hd2⟩
    · exact hR.imm _ (hlive l hl) b o hf hd
    · exact hR.sep _ _ (hlive l hl) hd1 (h2 l hl d hd) b o hf hd2
  · obtain ⟨l, hl, rfl⟩ := hheld k hk
    rw [(hG l hl).2]
    intro b o hf ha
    exact ha.2 ⟨l, hl, hf⟩
  · rcases hb with hb | ⟨d, hd, hd1, hd2⟩
    · exact hR.iwf b o hb
    · exact live_cell hR hd1 hd2
  · rcases hb.1 with hb | hb | ⟨k, hk, hb⟩
    · exact hR.iwf b o hb
    · exact hR.x.awf b o hb
    · exact live_cell hR hk hb

/-- behind the call -/
theorem call_post (hR : R n σ g I a w) (hd : dstOk n.np n.nt o = true) {args : List Arg} {c : Pass} (hc : PassOk σ c) (ha : apartOk c.deps c.lends = true) {ret : Ret} {g' : Gh} {I' : Foot} {v : Value} {w0 : World} {D : Nat}
    (hr : RetR (lendGh g c.lends) (depFoot σ.k g I c.deps) (keepA n σ g I c) args w ret g' I' w' v)
    (h : (giveBack c.deps.isEmpty ret c.lends (backBoxes c D ret c.lends (match o.dst with
      | none => .ret
      | some d => backRes c d 0 ret.rs fun xs => .setS d (oneEnt xs) .ret))).wp cf σ tr Q) (hK : Post P n I w Q K) : K (a.put o.dst v) w' := by
  obtain ⟨h1, h2⟩ := apartOk_ok ha
  have hlive : ∀ l ∈ c.lends, Live (σ.k l.key).ch := fun l hl => by
    obtain ⟨-, ⟨-, ls, h⟩ | ⟨-, ms, rows, h⟩⟩ := hc.lend l hl <;> rw [h] <;> trivial
  have hG : ∀ l ∈ c.lends, (lendGh g c.lends).h [l.i, l.j] = g.h l.key ∧ (lendGh g c.lends).F [l.i, l.j] = g.F l.key := fun l hl => by
    simp only [lendGh, findLend_of h1 hl]
    exact ⟨trivial, trivial⟩
  obtain ⟨σ1, t1, h, e1, e2, e3⟩ := giveBack_wp h1 h
  let L : Key → Prop := fun k => ∃ l ∈ c.lends, l.key = k
  let A' := keepA n σ g I c
  let I2 : Foot := fun b o => I b o ∨ (I' b o ∧ ¬ A' b o)
  have hIA : ∀ b o, I b o ∨ n.A b o → A' b o := fun b o hb => by
    refine ⟨hb.elim .inl fun h => .inr (.inl h), fun ⟨l, hl, hf⟩ => ?_⟩
    rcases hb with hb | hb
    · exact hR.imm _ (hlive l hl) b o hf hb
    · exact hR.x.frm _ (hlive l hl) b o hf hb
  have hAL : ∀ k, ¬ L k → Live (σ.k k).ch → ∀ b o, g.F k b o → A' b o := fun k hk hlv b o hf =>
    ⟨.inr (.inr ⟨k, hlv, hf⟩), fun ⟨l, hl, hf'⟩ => hR.sep _ _ hlv (hlive l hl) (fun e => hk ⟨l, hl, e.symm⟩) b o hf hf'⟩
  have hnL : ∀ k, ¬ L k → σ1.k k = σ.k k := fun k hk => e2 k fun l hl e => hk ⟨l, hl, e⟩
  have hrow : ∀ es rows v F, (flatLs es || c.deps.isEmpty) = true → RowOwn w' I' es rows v F → RowOwn w' I2 es rows v F := by
    intro es rows v F hf hrow
    rw [Bool.or_eq_true] at hf
    rcases hf with hf | hf
    · exact hrow.flat hf
    · refine hrow.same fun b o hb => ?_
      by_cases ha : A' b o
      · have := hr.ia b o hb ha
        have hnil : c.deps = [] := by simpa using hf
        rw [hnil] at this
        exact .inl (this.elim id fun ⟨d, hd, _⟩ => (nomatch hd))
      · exact .inr ⟨hb, ha⟩
  have hkk : Keeps A' w w' := hr.keeps.weaken fun b o hb => .inr hb
  obtain ⟨hR1, ev1⟩ := hR.call (σ' := σ1) (I' := I2) (w' := w') L (A' := A') e1 hnL (fun k hk => by
      obtain ⟨l, hl, rfl⟩ := hk
      refine ⟨hlive l hl, ?_⟩
      obtain ⟨hid, hkind⟩ := hc.lend l hl
      rcases e3 l hl with ⟨hj, es, ms, rows, ho, hes, hfl, hk⟩ | ⟨hj, ho, hk⟩ | ⟨hj, old, rls, hold, hbo, hlen, hk⟩
      · obtain ⟨-, ms0, rows0, hch0⟩ := hkind.resolve_left fun h => hj h.1
        rw [hk]
        obtain ⟨hr1, hr2, hr3⟩ := hr.own _ _ _ _ _ ho
        rw [(hG l hl).1, (hG l hl).2] at hr1
        rw [(hG l hl).2] at hr3
        refine ⟨rfl, .inl ⟨rfl, by rw [hch0, ← hes]; rfl, ⟨hrow _ _ _ _ hfl hr1, hr2⟩, fun b o hf hi => ?_⟩⟩
        rcases hi with hi | hi
        · exact hR.imm _ (hlive l hl) b o hf hi
        · exact hr3 b o hf hi.1
      · rw [hk]
        exact ⟨rfl, .inr ⟨rfl, rfl⟩⟩
      · rw [hk]
        obtain ⟨⟨cs, hb1, hb2⟩, hb3⟩ := hr.box _ _ hbo
        have hg := hG l hl
        rw [hj] at hg
        rw [hg.1, hg.2] at hb1
        rw [hg.2] at hb3
        refine ⟨rfl, .inl ⟨rfl, by rw [hold]; rfl, ?_, fun b o hf hi => ?_⟩⟩
        · exact BoxAt.own (cs := cs) (by rw [List.length_map, ← hlen]; exact hb1) (dead_lfs hb2 hlen)
        · rcases hi with hi | hi
          · exact hR.imm _ (hlive l hl) b o hf hi
          · exact hb3 b o hf hi.1) hkk hIA hAL (fun b o hb => .inl hb) (fun k hk hlv b o hf hi => by
      rcases hi with hi | hi
      · exact hR.imm _ hlv b o hf hi
      · exact hi.2 (hAL k hk hlv b o hf)) (fun b o hi => by
      rcases hi with hi | hi
      · obtain ⟨v, hv⟩ := hR.iwf b o hi
        exact ⟨v, (hkk.cell (hIA b o (.inl hi)) ⟨v, hv⟩).trans hv⟩
      · exact hr.iwf b o hi.1) (fun b o hi => hi.imp id fun hi ha => hi.2 (hIA b o (.inr ha)))
  have hKK : Keeps (Im n I) w w' := hkk.weaken fun b o hb => hIA b o hb
  have hinc : ∀ b o, I b o → I2 b o := fun b o hb => .inl hb
  have hB : Back n c σ1.k g (lendGh g c.lends) g' I' I2 w' (retKeys ret) := by
    refine ⟨fun lt v d hlf => hlf.same fun b o hb => ?_, ev1.old hc.old, fun l hl => ⟨?_, (hG l hl).1⟩, hr.sep, fun k hk b o hf hi => ?_, fun k hk b o hf hi => hr.frm k hk b o hf (hIA b o (.inr hi)), hrow⟩
    · by_cases ha : A' b o
      · rcases hr.ia b o hb ha with hi | ⟨d, hd, hd1, hd2⟩
        · exact .inl (.inl hi)
        · refine .inr ⟨d, hd, ?_, hd2⟩
          rwa [hnL d.1 fun ⟨l, hl, e⟩ => h2 l hl d hd e]
      · exact .inl (.inr ⟨hb, ha⟩)
    · rw [← (hc.lend l hl).1]; exact ev1.idv _
    · rcases hi with hi | hi
      · exact hr.frm k hk b o hf (hIA b o (.inl hi))
      · exact hr.imm k hk b o hf hi.1
  have haw : Away σ1 g g' (retKeys ret) := by
    intro k hk u hu
    by_cases hL : L u
    · obtain ⟨l, hl, rfl⟩ := hL
      rcases e3 l hl with ⟨hj, es, ms, rows, ho, hes, hfl, hk'⟩ | ⟨hj, ho, hk'⟩ | ⟨hj, old, rls, hold, hbo, hlen, hk'⟩
      · have := hr.sepP k _ _ _ _ _ hk ho
        rw [(hG l hl).2] at this
        exact fun b o h1 h2 => this b o h2 h1
      · rw [hk'] at hu; exact hu.elim
      · have := hr.sepB k _ _ hk hbo
        have hg := (hG l hl).2
        rw [hj] at hg
        rw [hg] at this
        exact fun b o h1 h2 => this b o h2 h1
    · rw [hnL u hL] at hu
      exact fun b o h1 h2 => hr.frm k hk b o h2 (hAL u hL hu b o h1)
  obtain ⟨hnd, hsub⟩ := bk_nd hr.nd h1
  have hkpD : ∀ r, ¬ isPar n.np ((D + 2000000) :: r) := fun r h => by
    have h : D + 2000000 < n.np := h
    have := n.big
    omega
  obtain ⟨σ2, g2, t2, h, hR2, ev2, hs2, haw2⟩ := backBoxes_wp hB hkpD (fun l hl hj => by
      refine ⟨?_, fun rls hbo => ?_⟩
      · rcases e3 l hl with ⟨hj', _⟩ | ⟨hj', _⟩ | ⟨-, old, rls, hold, hbo, hlen, hk'⟩
        · exact absurd hj hj'
        · exact absurd hj hj'
        · rw [hk']; exact (hc.lend l hl).1.symm
      · obtain ⟨⟨cs, hb1, hb2⟩, -⟩ := hr.box _ _ hbo
        have hg := (hG l hl).1
        rw [hj] at hg
        rw [hg] at hb1
        exact ⟨cs, _, hb1, hb2⟩) hR1 Evo.refl hsub hnd (fun k hk => haw k (hsub k hk)) h
  cases hdst : o.dst with
  | none =>
    rw [hdst] at h
    exact hK σ2 t2 g2 I2 a w' h hR2 hinc hKK
  | some d =>
    rw [hdst] at h
    simp only at h
    obtain ⟨vs, hv, hres⟩ := hr.res
    obtain ⟨hdn, hkp0⟩ := dst_ok hd hdst
    have hkp := hkp0 n.big
    obtain ⟨xs, σ3, g3, t3, h, hR3, ev3, hs3, hx⟩ := backRes_wp hB hkp hR2 ev2 hres (fun x hx => hsub x (List.mem_append.2 (.inr hx))) (List.nodup_append.1 hnd).2.1 haw2 h
    refine hK _ _ g3 I2 _ w' h ?_ hinc hKK
    rw [hv]
    exact hR3.put hdn (oneEnt_ok hx)

theorem op_callStep (hΓ : CtxOk Γ P) (hcf : CfOk Γ P cf) (hd : dstOk n.np n.nt o = true) (hR : R n σ g I a w) (hK : Post P n I w Q K) {f : FuncId} {es : List Ent} {vs : Array Value}
    (hrun : ∀ fn, Γ.fn f = some fn → (execOp a.eval o).run P w = .ok (.enter f vs) w) (hes : EntsR σ.k g w I es vs.toList) (h : (callStep Γ f o.dst es).wp cf σ tr Q) : Goal P o a w K Qm := by
  unfold callStep at h
  obtain ⟨hfn, h⟩ := h
  obtain ⟨fn, hfn'⟩ := Option.isSome_iff_exists.1 hfn
  obtain ⟨args, c, t1, h, h1, -, h3, h4⟩ := passAll_wp hR (c := ⟨[], [], []⟩) ⟨fun _ h => (nomatch h), fun _ h => (nomatch h)⟩ hes h
  obtain ⟨ha, h⟩ := h
  have hpre := call_pre hR h1 ha h3 h4
  simp only [Array.toArray_toList] at hpre
  refine .inl ?_
  unfold Oper.wp
  rw [hrun fn hfn', Oper.upon_enter]
  have hnb : cf f args ≠ .bad := fun e => by
    simp only [Prog.wp, e] at h
  refine Calls.mono (hcf f args hfn hnb _ _ _ _ _ hpre) fun e w' he => ?_
  cases e with
  | outgrown => exact he.elim
  | panicked _ => exact he.elim
  | returned v =>
    obtain ⟨ret, g', I', hret, hr⟩ := he
    simp only [Prog.wp, hret] at h
    exact call_post (w0 := w) hR hd h1 ha hr h hK
end
end Go.E

