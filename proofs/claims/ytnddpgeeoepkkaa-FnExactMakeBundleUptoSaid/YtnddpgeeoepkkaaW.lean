/- A part of the proof: texts S8W: see the last part's opening words. -/
import Derived.Test.YtnddpgeeoepkkaaD
set_option linter.unusedVariables false
set_option linter.unusedSimpArgs false
set_option linter.unnecessarySimpa false
namespace Go.Proofs
open Go Go.Shelf
def Try.laysCloneP_ren : Go.Shelf.Ren := ⟨fun | 41 => 22 | n => n, fun | 22 => 22 | 23 => 9 | n => n, fun | n => n⟩
theorem Try.laysCloneP : SlLaysE0.n41 Try.prog Try.laysCloneP_ren where
  mixed := by kernel_rfl
  f41 := ⟨Try.f22.name, by kernel_rfl, Try.func22.trans (congrArg some (by kernel_rfl))⟩
  t4 := Try.underlying4
  a4 := Try.isAgg4
  z4 := Try.sizeOf4
  v4 := Try.zeroValue4
  t22 := Try.underlying22
  a22 := Try.isAgg22
  z22 := Try.sizeOf22
  v22 := Try.zeroValue22
end Go.Proofs
namespace Go.Proofs.Ytnddpgeeoepkkaa
open Go Go.E Go.Proofs Go.RowKit
theorem prims_ok : PrimOk CX Try.prog prims := fun f g args h hne => by
  unfold prims at h
  cases h1 : Nat.beq f 22 with
  | true =>
    rw [h1] at h; cases h
    have := Nat.eq_of_beq_eq_true h1
    subst this
    obtain ⟨te, hte, hl⟩ : ∃ te : TI, CX.ty (Try.laysCloneP_ren.t 23) = some te ∧ te.lts = [.sc (.str)] := ⟨_, rfl, rfl⟩
    have := @primClone_ok CX Try.prog Try.laysCloneP_ren cx_ok Try.laysCloneP te hte (by rw [hl]; simp) args
    rw [hl] at this
    exact this hne
  | false =>
    rw [h1] at h
    cases h2 : Nat.beq f 60 with
    | true =>
      rw [h2] at h; cases h
      have := Nat.eq_of_beq_eq_true h2
      subst this
      exact primDigest_ok hne
    | false => rw [h2] at h; cases h
end Go.Proofs.Ytnddpgeeoepkkaa

