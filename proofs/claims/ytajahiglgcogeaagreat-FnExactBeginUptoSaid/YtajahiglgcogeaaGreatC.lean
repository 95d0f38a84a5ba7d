/- A part of the proof: texts BW: see the last part's opening words. -/
import Derived.Test.YtajahiglgcogeaaGreatB
import Derived.Test.YtajahiglgcogeaaGreatRows
import Derived.JoinedCond
import Derived.OpenShut
set_option linter.unusedVariables false
set_option linter.unusedSimpArgs false
set_option linter.unnecessarySimpa false
namespace Go.Proofs
open Go Go.Shelf
def Tryz.laysSort_ren : Go.Shelf.Ren := ⟨fun | 189 => 74 | 125 => 86 | 257 => 85 | 128 => 98 | 129 => 99 | 294 => 89 | 295 => 90 | 296 => 91 | 297 => 92 | 298 => 93 | 299 => 94 | 216 => 95 | 300 => 96 | 301 => 97 | 328 => 101 | 329 => 102 | 330 => 103 | 331 => 104 | 332 => 105 | 215 => 106 | 343 => 107 | n => n, fun | 28 => 71 | 3 => 3 | 46 => 110 | 0 => 0 | 51 => 111 | 53 => 123 | 4 => 4 | 183 => 114 | 182 => 113 | 131 => 119 | 5 => 5 | 9 => 9 | 218 => 125 | 222 => 129 | 228 => 132 | 229 => 133 | n => n, fun | n => n⟩
theorem Tryz.laysSort : Go.Proofs.Lays.n189 Tryz.prog Tryz.laysSort_ren where
  mixed := by kernel_rfl
  f125 := Tryz.func86.trans (congrArg some (by kernel_rfl))
  f128 := Tryz.func98.trans (congrArg some (by kernel_rfl))
  f129 := Tryz.func99.trans (congrArg some (by kernel_rfl))
  f189 := Tryz.func74.trans (congrArg some (by kernel_rfl))
  f215 := Tryz.func106.trans (congrArg some (by kernel_rfl))
  f216 := Tryz.func95.trans (congrArg some (by kernel_rfl))
  f257 := Tryz.func85.trans (congrArg some (by kernel_rfl))
  f294 := Tryz.func89.trans (congrArg some (by kernel_rfl))
  f295 := Tryz.func90.trans (congrArg some (by kernel_rfl))
  f296 := Tryz.func91.trans (congrArg some (by kernel_rfl))
  f297 := Tryz.func92.trans (congrArg some (by kernel_rfl))
  f298 := Tryz.func93.trans (congrArg some (by kernel_rfl))
  f299 := Tryz.func94.trans (congrArg some (by kernel_rfl))
  f300 := Tryz.func96.trans (congrArg some (by kernel_rfl))
  f301 := Tryz.func97.trans (congrArg some (by kernel_rfl))
  f328 := Tryz.func101.trans (congrArg some (by kernel_rfl))
  f329 := Tryz.func102.trans (congrArg some (by kernel_rfl))
  f330 := Tryz.func103.trans (congrArg some (by kernel_rfl))
  f331 := Tryz.func104.trans (congrArg some (by kernel_rfl))
  f332 := Tryz.func105.trans (congrArg some (by kernel_rfl))
  f343 := Tryz.func107.trans (congrArg some (by kernel_rfl))
  t0 := Tryz.underlying0
  a0 := Tryz.isAgg0
  z0 := Tryz.sizeOf0
  v0 := Tryz.zeroValue0
  t3 := Tryz.underlying3
  a3 := Tryz.isAgg3
  z3 := Tryz.sizeOf3
  v3 := Tryz.zeroValue3
  t4 := Tryz.underlying4
  a4 := Tryz.isAgg4
  z4 := Tryz.sizeOf4
  v4 := Tryz.zeroValue4
  t5 := Tryz.underlying5
  a5 := Tryz.isAgg5
  z5 := Tryz.sizeOf5
  v5 := Tryz.zeroValue5
  t9 := Tryz.underlying9
  a9 := Tryz.isAgg9
  z9 := Tryz.sizeOf9
  v9 := Tryz.zeroValue9
  t28 := Tryz.underlying71
  a28 := Tryz.isAgg71
  z28 := Tryz.sizeOf71
  v28 := Tryz.zeroValue71
  t46 := Tryz.underlying110
  a46 := Tryz.isAgg110
  z46 := Tryz.sizeOf110
  v46 := Tryz.zeroValue110
  t51 := Tryz.underlying111
  a51 := Tryz.isAgg111
  z51 := Tryz.sizeOf111
  v51 := Tryz.zeroValue111
  t53 := Tryz.underlying123
  a53 := Tryz.isAgg123
  z53 := Tryz.sizeOf123
  v53 := Tryz.zeroValue123
  t131 := Tryz.underlying119
  a131 := Tryz.isAgg119
  z131 := Tryz.sizeOf119
  v131 := Tryz.zeroValue119
  t182 := Tryz.underlying113
  a182 := Tryz.isAgg113
  z182 := Tryz.sizeOf113
  v182 := Tryz.zeroValue113
  t183 := Tryz.underlying114
  a183 := Tryz.isAgg114
  z183 := Tryz.sizeOf114
  v183 := Tryz.zeroValue114
  t218 := Tryz.underlying125
  a218 := Tryz.isAgg125
  z218 := Tryz.sizeOf125
  v218 := Tryz.zeroValue125
  t222 := Tryz.underlying129
  a222 := Tryz.isAgg129
  z222 := Tryz.sizeOf129
  v222 := Tryz.zeroValue129
  t228 := Tryz.underlying132
  a228 := Tryz.isAgg132
  z228 := Tryz.sizeOf132
  v228 := Tryz.zeroValue132
  t229 := Tryz.underlying133
  a229 := Tryz.isAgg133
  z229 := Tryz.sizeOf133
  v229 := Tryz.zeroValue133
def Tryz.laysCompact_ren : Go.Shelf.Ren := ⟨fun | 20 => 76 | n => n, fun | 22 => 71 | 3 => 3 | 4 => 4 | 0 => 0 | n => n, fun | n => n⟩
theorem Tryz.laysCompact : Go.Proofs.Lays2.n20 Tryz.prog Tryz.laysCompact_ren where
  mixed := by kernel_rfl
  f20 := Tryz.func76.trans (congrArg some (by kernel_rfl))
  t0 := Tryz.underlying0
  a0 := Tryz.isAgg0
  z0 := Tryz.sizeOf0
  v0 := Tryz.zeroValue0
  t3 := Tryz.underlying3
  a3 := Tryz.isAgg3
  z3 := Tryz.sizeOf3
  v3 := Tryz.zeroValue3
  t4 := Tryz.underlying4
  a4 := Tryz.isAgg4
  z4 := Tryz.sizeOf4
  v4 := Tryz.zeroValue4
  t22 := Tryz.underlying71
  a22 := Tryz.isAgg71
  z22 := Tryz.sizeOf71
  v22 := Tryz.zeroValue71
  i3 := by kernel_rfl
def Tryz.laysCloneOp_ren : Go.Shelf.Ren := ⟨fun | 41 => 49 | n => n, fun | 22 => 37 | 23 => 58 | n => n, fun | n => n⟩
theorem Tryz.laysCloneOp : SlLaysE0.n41 Tryz.prog Tryz.laysCloneOp_ren where
  mixed := by kernel_rfl
  f41 := ⟨Tryz.f49.name, by kernel_rfl, Tryz.func49.trans (congrArg some (by kernel_rfl))⟩
  t4 := Tryz.underlying4
  a4 := Tryz.isAgg4
  z4 := Tryz.sizeOf4
  v4 := Tryz.zeroValue4
  t22 := Tryz.underlying37
  a22 := Tryz.isAgg37
  z22 := Tryz.sizeOf37
  v22 := Tryz.zeroValue37
def Tryz.laysCloneI_ren : Go.Shelf.Ren := ⟨fun | 41 => 50 | n => n, fun | 22 => 71 | 23 => 3 | n => n, fun | n => n⟩
theorem Tryz.laysCloneI : SlLaysE0.n41 Tryz.prog Tryz.laysCloneI_ren where
  mixed := by kernel_rfl
  f41 := ⟨Tryz.f50.name, by kernel_rfl, Tryz.func50.trans (congrArg some (by kernel_rfl))⟩
  t4 := Tryz.underlying4
  a4 := Tryz.isAgg4
  z4 := Tryz.sizeOf4
  v4 := Tryz.zeroValue4
  t22 := Tryz.underlying71
  a22 := Tryz.isAgg71
  z22 := Tryz.sizeOf71
  v22 := Tryz.zeroValue71
def Tryz.laysCloneC_ren : Go.Shelf.Ren := ⟨fun | 41 => 51 | n => n, fun | 22 => 30 | 23 => 79 | n => n, fun | n => n⟩
theorem Tryz.laysCloneC : SlLaysE0.n41 Tryz.prog Tryz.laysCloneC_ren where
  mixed := by kernel_rfl
  f41 := ⟨Tryz.f51.name, by kernel_rfl, Tryz.func51.trans (congrArg some (by kernel_rfl))⟩
  t4 := Tryz.underlying4
  a4 := Tryz.isAgg4
  z4 := Tryz.sizeOf4
  v4 := Tryz.zeroValue4
  t22 := Tryz.underlying30
  a22 := Tryz.isAgg30
  z22 := Tryz.sizeOf30
  v22 := Tryz.zeroValue30
end Go.Proofs
namespace Go.Proofs.YtajahiglgcogeaaGreat
open Go Go.E Go.Proofs Go.RowKit
mutual
theorem bulk_eq {H : Type} : ∀ d : DataW H, Rows.uptoBulk d = bulkW d
  | .lit l => by cases l <;> simp [Rows.uptoBulk, bulkW]
  | .nil => by simp [Rows.uptoBulk, bulkW]
  | .ptr d => by simp [Rows.uptoBulk, bulkW, bulk_eq d]
  | .slice elems spare => by simp [Rows.uptoBulk, bulkW, bulkAll_eq elems, bulkAll_eq spare]
  | .agg parts => by simp [Rows.uptoBulk, bulkW, bulkAll_eq parts]
  | .iface t d => by simp [Rows.uptoBulk, bulkW, bulk_eq d]
  | .map entries => by simp [Rows.uptoBulk, bulkW, bulkEntries_eq entries]
  | .held h => by simp [Rows.uptoBulk, bulkW]
theorem bulkAll_eq {H : Type} : ∀ ds : List (DataW H), Rows.uptoBulkAll ds = bulkAll ds
  | [] => by simp [Rows.uptoBulkAll, bulkAll]
  | d :: r => by simp [Rows.uptoBulkAll, bulkAll, bulk_eq d, bulkAll_eq r]
theorem bulkEntries_eq {H : Type} : ∀ ds : List (Lit × DataW H), Rows.uptoBulkEntries ds = bulkEntries ds
  | [] => by simp [Rows.uptoBulkEntries, bulkEntries]
  | x :: r => by simp [Rows.uptoBulkEntries, bulkEntries, bulkEntry_eq x, bulkEntries_eq r]
theorem bulkEntry_eq {H : Type} : ∀ x : Lit × DataW H, Rows.uptoBulkEntry x = bulkEntry x
  | (l, d) => by cases l <;> simp [Rows.uptoBulkEntry, bulkEntry, bulk_eq d]
end
theorem upto_le {H : Type} {ds : List (DataW H)} (h : Rows.uptoSmall H ds = true) : bulkAll ds ≤ 1048576 := by
  rw [← bulkAll_eq]
  exact of_decide_eq_true h
theorem laid : laidOutB Tryz.prog = true := by kernel_rfl
theorem cx_ok : CtxOk CX Tryz.prog := ctx_ok (tab := tyTab) (fns := fnTab) rfl rfl (by kernel_rfl) fns_ok (by kernel_rfl)
theorem own : ownKnob Tryz.prog.godebug = none := by kernel_rfl
theorem prims_ok : PrimOk CX Tryz.prog prims := fun f g args h hne => by
  unfold prims at h
  cases h1 : Nat.beq f 49 with
  | true =>
    rw [h1] at h; cases h
    have := Nat.eq_of_beq_eq_true h1
    subst this
    obtain ⟨te, hte, hl⟩ : ∃ te : TI, CX.ty (Tryz.laysCloneOp_ren.t 23) = some te ∧ te.lts = [.sc (.int .i64), .sc (.str), .sc (.str)] := ⟨_, rfl, rfl⟩
    have := @primClone_ok CX Tryz.prog Tryz.laysCloneOp_ren cx_ok Tryz.laysCloneOp te hte (by rw [hl]; simp) args
    rw [hl] at this
    exact this hne
  | false =>
    rw [h1] at h
    cases h2 : Nat.beq f 50 with
    | true =>
      rw [h2] at h; cases h
      have := Nat.eq_of_beq_eq_true h2
      subst this
      obtain ⟨te, hte, hl⟩ : ∃ te : TI, CX.ty (Tryz.laysCloneI_ren.t 23) = some te ∧ te.lts = [.sc (.int .i64)] := ⟨_, rfl, rfl⟩
      have := @primClone_ok CX Tryz.prog Tryz.laysCloneI_ren cx_ok Tryz.laysCloneI te hte (by rw [hl]; simp) args
      rw [hl] at this
      exact this hne
    | false =>
      rw [h2] at h
      cases h3 : Nat.beq f 51 with
      | true =>
        rw [h3] at h; cases h
        have := Nat.eq_of_beq_eq_true h3
        subst this
        obtain ⟨te, hte, hl⟩ : ∃ te : TI, CX.ty (Tryz.laysCloneC_ren.t 23) = some te ∧ te.lts = [.sc (.int .i64), .sc (.bool)] := ⟨_, rfl, rfl⟩
        have := @primClone_ok CX Tryz.prog Tryz.laysCloneC_ren cx_ok Tryz.laysCloneC te hte (by rw [hl]; simp) args
        rw [hl] at this
        exact this hne
      | false =>
        rw [h3] at h
        cases h4 : Nat.beq f 74 with
        | true =>
          rw [h4] at h; cases h
          have := Nat.eq_of_beq_eq_true h4
          subst this
          exact primSort_ok Tryz.laysSort hne
        | false =>
          rw [h4] at h
          cases h5 : Nat.beq f 76 with
          | true =>
            rw [h5] at h; cases h
            have := Nat.eq_of_beq_eq_true h5
            subst this
            exact primCompact_ok Tryz.laysCompact hne
          | false => rw [h5] at h; cases h
end Go.Proofs.YtajahiglgcogeaaGreat

