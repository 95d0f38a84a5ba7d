/- A part of the proof: texts S7W: see the last part's opening words. -/
import Derived.Test.YtdhldbjjdlnbmaaGreatI
set_option linter.unusedVariables false
set_option linter.unusedSimpArgs false
set_option linter.unnecessarySimpa false
namespace Go.Proofs
open Go Go.Shelf
def Tryz.laysCloneP_ren : Go.Shelf.Ren := ⟨fun | 41 => 51 | n => n, fun | 22 => 27 | 23 => 49 | n => n, fun | n => n⟩
theorem Tryz.laysCloneP : SlLaysE0.n41 Tryz.prog Tryz.laysCloneP_ren where
  mixed := by kernel_rfl
  f41 := ⟨Tryz.f51.name, by kernel_rfl, Tryz.func51.trans (congrArg some (by kernel_rfl))⟩
  t4 := Tryz.underlying4
  a4 := Tryz.isAgg4
  z4 := Tryz.sizeOf4
  v4 := Tryz.zeroValue4
  t22 := Tryz.underlying27
  a22 := Tryz.isAgg27
  z22 := Tryz.sizeOf27
  v22 := Tryz.zeroValue27
end Go.Proofs
namespace Go.Proofs.YtdhldbjjdlnbmaaGreat
open Go Go.E Go.Proofs Go.RowKit
theorem insRuns : InsRuns Tryz.prog 78 2 32 49 where
  shift := ins_shift (vo := 0)
  room := ins_end_room
  endg := ins_end_grow
  grow := ins_grow
theorem prims_ok : PrimOk CX Tryz.prog prims := fun f g args h hne => by
  unfold prims at h
  cases h1 : Nat.beq f 42 with
  | true =>
    rw [h1] at h; cases h
    have := Nat.eq_of_beq_eq_true h1
    subst this
    exact primDigest_ok hne
  | false =>
    rw [h1] at h
    cases h2 : Nat.beq f 51 with
    | true =>
      rw [h2] at h; cases h
      have := Nat.eq_of_beq_eq_true h2
      subst this
      obtain ⟨te, hte, hl⟩ : ∃ te : TI, CX.ty (Tryz.laysCloneP_ren.t 23) = some te ∧ te.lts = [.sc (.str), .sc (.str)] := ⟨_, rfl, rfl⟩
      have := @primClone_ok CX Tryz.prog Tryz.laysCloneP_ren cx_ok Tryz.laysCloneP te hte (by rw [hl]; simp) args
      rw [hl] at this
      exact this hne
    | false =>
      rw [h2] at h
      cases h3 : Nat.beq f 78 with
      | true =>
        rw [h3] at h; cases h
        have := Nat.eq_of_beq_eq_true h3
        subst this
        exact primInsert_ok (by decide) (by decide) insRuns hne
      | false => rw [h3] at h; cases h
end Go.Proofs.YtdhldbjjdlnbmaaGreat

