/- A part of the proof: texts S3W: see the last part's opening words. -/
import Derived.Test.YtmhiklfijdpebaaA2
import Derived.Test.YtmhiklfijdpebaaRows
import Derived.JoinedCond
import Derived.OpenShut
set_option linter.unusedVariables false
set_option linter.unusedSimpArgs false
set_option linter.unnecessarySimpa false
namespace Go.Proofs
open Go Go.Shelf
def Try.laysSort_ren : Go.Shelf.Ren := ⟨fun | 189 => 111 | 125 => 141 | 257 => 140 | 128 => 175 | 129 => 176 | 294 => 166 | 295 => 167 | 296 => 168 | 297 => 169 | 298 => 170 | 299 => 171 | 216 => 172 | 300 => 173 | 301 => 174 | 328 => 192 | 329 => 193 | 330 => 194 | 331 => 195 | 332 => 196 | 215 => 197 | 343 => 208 | n => n, fun | 28 => 121 | 3 => 3 | 46 => 205 | 0 => 0 | 51 => 224 | 53 => 236 | 4 => 4 | 183 => 227 | 182 => 226 | 131 => 232 | 5 => 5 | 9 => 9 | 218 => 251 | 222 => 255 | 228 => 266 | 229 => 267 | n => n, fun | n => n⟩
theorem Try.laysSort : Go.Proofs.Lays.n189 Try.prog Try.laysSort_ren where
  mixed := by kernel_rfl
  f125 := Try.func141.trans (congrArg some (by kernel_rfl))
  f128 := Try.func175.trans (congrArg some (by kernel_rfl))
  f129 := Try.func176.trans (congrArg some (by kernel_rfl))
  f189 := Try.func111.trans (congrArg some (by kernel_rfl))
  f215 := Try.func197.trans (congrArg some (by kernel_rfl))
  f216 := Try.func172.trans (congrArg some (by kernel_rfl))
  f257 := Try.func140.trans (congrArg some (by kernel_rfl))
  f294 := Try.func166.trans (congrArg some (by kernel_rfl))
  f295 := Try.func167.trans (congrArg some (by kernel_rfl))
  f296 := Try.func168.trans (congrArg some (by kernel_rfl))
  f297 := Try.func169.trans (congrArg some (by kernel_rfl))
  f298 := Try.func170.trans (congrArg some (by kernel_rfl))
  f299 := Try.func171.trans (congrArg some (by kernel_rfl))
  f300 := Try.func173.trans (congrArg some (by kernel_rfl))
  f301 := Try.func174.trans (congrArg some (by kernel_rfl))
  f328 := Try.func192.trans (congrArg some (by kernel_rfl))
  f329 := Try.func193.trans (congrArg some (by kernel_rfl))
  f330 := Try.func194.trans (congrArg some (by kernel_rfl))
  f331 := Try.func195.trans (congrArg some (by kernel_rfl))
  f332 := Try.func196.trans (congrArg some (by kernel_rfl))
  f343 := Try.func208.trans (congrArg some (by kernel_rfl))
  t0 := Try.underlying0
  a0 := Try.isAgg0
  z0 := Try.sizeOf0
  v0 := Try.zeroValue0
  t3 := Try.underlying3
  a3 := Try.isAgg3
  z3 := Try.sizeOf3
  v3 := Try.zeroValue3
  t4 := Try.underlying4
  a4 := Try.isAgg4
  z4 := Try.sizeOf4
  v4 := Try.zeroValue4
  t5 := Try.underlying5
  a5 := Try.isAgg5
  z5 := Try.sizeOf5
  v5 := Try.zeroValue5
  t9 := Try.underlying9
  a9 := Try.isAgg9
  z9 := Try.sizeOf9
  v9 := Try.zeroValue9
  t28 := Try.underlying121
  a28 := Try.isAgg121
  z28 := Try.sizeOf121
  v28 := Try.zeroValue121
  t46 := Try.underlying205
  a46 := Try.isAgg205
  z46 := Try.sizeOf205
  v46 := Try.zeroValue205
  t51 := Try.underlying224
  a51 := Try.isAgg224
  z51 := Try.sizeOf224
  v51 := Try.zeroValue224
  t53 := Try.underlying236
  a53 := Try.isAgg236
  z53 := Try.sizeOf236
  v53 := Try.zeroValue236
  t131 := Try.underlying232
  a131 := Try.isAgg232
  z131 := Try.sizeOf232
  v131 := Try.zeroValue232
  t182 := Try.underlying226
  a182 := Try.isAgg226
  z182 := Try.sizeOf226
  v182 := Try.zeroValue226
  t183 := Try.underlying227
  a183 := Try.isAgg227
  z183 := Try.sizeOf227
  v183 := Try.zeroValue227
  t218 := Try.underlying251
  a218 := Try.isAgg251
  z218 := Try.sizeOf251
  v218 := Try.zeroValue251
  t222 := Try.underlying255
  a222 := Try.isAgg255
  z222 := Try.sizeOf255
  v222 := Try.zeroValue255
  t228 := Try.underlying266
  a228 := Try.isAgg266
  z228 := Try.sizeOf266
  v228 := Try.zeroValue266
  t229 := Try.underlying267
  a229 := Try.isAgg267
  z229 := Try.sizeOf267
  v229 := Try.zeroValue267
def Try.laysCompact_ren : Go.Shelf.Ren := ⟨fun | 20 => 113 | n => n, fun | 22 => 121 | 3 => 3 | 4 => 4 | 0 => 0 | n => n, fun | n => n⟩
theorem Try.laysCompact : Go.Proofs.Lays2.n20 Try.prog Try.laysCompact_ren where
  mixed := by kernel_rfl
  f20 := Try.func113.trans (congrArg some (by kernel_rfl))
  t0 := Try.underlying0
  a0 := Try.isAgg0
  z0 := Try.sizeOf0
  v0 := Try.zeroValue0
  t3 := Try.underlying3
  a3 := Try.isAgg3
  z3 := Try.sizeOf3
  v3 := Try.zeroValue3
  t4 := Try.underlying4
  a4 := Try.isAgg4
  z4 := Try.sizeOf4
  v4 := Try.zeroValue4
  t22 := Try.underlying121
  a22 := Try.isAgg121
  z22 := Try.sizeOf121
  v22 := Try.zeroValue121
  i3 := by kernel_rfl
end Go.Proofs
namespace Go.Proofs.Ytmhiklfijdpebaa
open Go Go.E Go.Proofs Go.RowKit
mutual
theorem bulk_eq {H : Type} : ∀ d : DataW H, Rows.uptoBulk d = bulkW d
  | .lit l => by cases l <;> simp [Rows.uptoBulk, bulkW]
  | .nil => by simp [Rows.uptoBulk, bulkW]
  | .ptr d => by simp [Rows.uptoBulk, bulkW, bulk_eq d]
  | .slice elems spare => by simp [Rows.uptoBulk, bulkW, bulkAll_eq elems, bulkAll_eq spare]
  | .agg parts => by simp [Rows.uptoBulk, bulkW, bulkAll_eq parts]
  | .iface t d => by simp [Rows.uptoBulk, bulkW, bulk_eq d]
  | .map entries => by simp [Rows.uptoBulk, bulkW, bulkEntries_eq entries]
  | .held h => by simp [Rows.uptoBulk, bulkW]
theorem bulkAll_eq {H : Type} : ∀ ds : List (DataW H), Rows.uptoBulkAll ds = bulkAll ds
  | [] => by simp [Rows.uptoBulkAll, bulkAll]
  | d :: r => by simp [Rows.uptoBulkAll, bulkAll, bulk_eq d, bulkAll_eq r]
theorem bulkEntries_eq {H : Type} : ∀ ds : List (Lit × DataW H), Rows.uptoBulkEntries ds = bulkEntries ds
  | [] => by simp [Rows.uptoBulkEntries, bulkEntries]
  | x :: r => by simp [Rows.uptoBulkEntries, bulkEntries, bulkEntry_eq x, bulkEntries_eq r]
theorem bulkEntry_eq {H : Type} : ∀ x : Lit × DataW H, Rows.uptoBulkEntry x = bulkEntry x
  | (l, d) => by cases l <;> simp [Rows.uptoBulkEntry, bulkEntry, bulk_eq d]
end
theorem upto_le {H : Type} {ds : List (DataW H)} (h : Rows.uptoSmall H ds = true) : bulkAll ds ≤ 1048576 := by
  rw [← bulkAll_eq]
  exact of_decide_eq_true h
theorem laid : laidOutB Try.prog = true := by kernel_rfl
theorem cx_ok : CtxOk CX Try.prog := ctx_ok (tab := tyTab) (fns := fnTab) rfl rfl (by kernel_rfl) fns_ok (by kernel_rfl)
theorem prims_ok : PrimOk CX Try.prog prims := fun f g args h hne => by
  unfold prims at h
  cases h1 : Nat.beq f 111 with
  | true =>
    rw [h1] at h; cases h
    have := Nat.eq_of_beq_eq_true h1
    subst this
    exact primSort_ok Try.laysSort hne
  | false =>
    rw [h1] at h
    cases h2 : Nat.beq f 113 with
    | true =>
      rw [h2] at h; cases h
      have := Nat.eq_of_beq_eq_true h2
      subst this
      exact primCompact_ok Try.laysCompact hne
    | false => rw [h2] at h; cases h
theorem own : ownKnob Try.prog.godebug = none := by kernel_rfl

end Go.Proofs.Ytmhiklfijdpebaa

