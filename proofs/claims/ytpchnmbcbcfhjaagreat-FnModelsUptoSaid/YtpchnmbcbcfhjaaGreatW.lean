/- A part of the proof: texts UW0: see the last part's opening words. -/
import Derived.Test.YtpchnmbcbcfhjaaGreatN
import Derived.Test.YtpchnmbcbcfhjaaGreatRows
import Derived.JoinedCond
import Derived.OpenShut
set_option linter.unusedVariables false
set_option linter.unusedSimpArgs false
set_option linter.unnecessarySimpa false
namespace Go.Proofs.YtpchnmbcbcfhjaaGreat
open Go Go.E Go.Proofs Go.RowKit
mutual
theorem LM {H:Type} : ∀ d:DataW H,Rows.uptoBulk d=jT d
 | .lit l=>by cases l <;> simp [Rows.uptoBulk,jT]
 | .nil=>by simp [Rows.uptoBulk,jT]
 | .ptr d=>by simp [Rows.uptoBulk,jT,LM d]
 | .slice elems spare=>by simp [Rows.uptoBulk,jT,yx elems,yx spare]
 | .agg parts=>by simp [Rows.uptoBulk,jT,yx parts]
 | .iface t d=>by simp [Rows.uptoBulk,jT,LM d]
 | .map entries=>by simp [Rows.uptoBulk,jT,D9 entries]
 | .held h=>by simp [Rows.uptoBulk,jT]
theorem yx {H:Type} : ∀ ds:List (DataW H),Rows.uptoBulkAll ds=dI ds
 | []=>by simp [Rows.uptoBulkAll,dI]
 | d::r=>by simp [Rows.uptoBulkAll,dI,LM d,yx r]
theorem D9 {H:Type} : ∀ ds:List (Lit×DataW H),Rows.uptoBulkEntries ds=uT ds
 | []=>by simp [Rows.uptoBulkEntries,uT]
 | x::r=>by simp [Rows.uptoBulkEntries,uT,TY x,D9 r]
theorem TY {H:Type} : ∀ x:Lit×DataW H,Rows.uptoBulkEntry x=IL x
 | (l,d)=>by cases l <;> simp [Rows.uptoBulkEntry,IL,LM d]
end
theorem aeo {H:Type} {ds:List (DataW H)} (h:Rows.uptoSmall H ds=true):dI ds<=1048576:=by
 rw [<-yx]
 exact of_decide_eq_true h
theorem laid:laidOutB Tryz.prog=true:=by kernel_rfl
theorem WY:d9 CX Tryz.prog:=afB (tab:=ab9) (fns:=Vo) rfl rfl (by kernel_rfl) afV (by kernel_rfl)
theorem aep:YW Tryz.prog 92 2 32 83 where
 shift:=aac (vo:=0)
 room:=SQ
 afJ:=SS
 grow:=ab7
theorem aer:Y4 Tryz.prog 184 3:=fun h1 h2 h3 h4 h5 h6 h7 h8=>ab6 h1 h2 h3 h4 h5 h6 h7 h8
theorem adl:XG CX Tryz.prog aC:=fun f g args h hne=>by
 unfold aC at h
 cases h0:Nat.beq f 40 with
 | true =>
  rw [h0] at h; cases h
  have:=Nat.eq_of_beq_eq_true h0
  subst this
  exact U6 Tryz.ab8 hne
 | false =>
 rw [h0] at h
 cases h1:Nat.beq f 42 with
 | true =>
  rw [h1] at h; cases h
  have:=Nat.eq_of_beq_eq_true h1
  subst this
  exact Nj Tryz.Vm hne
 | false =>
 rw [h1] at h
 cases h2:Nat.beq f 47 with
 | true =>
  rw [h2] at h; cases h
  have:=Nat.eq_of_beq_eq_true h2
  subst this
  obtain ⟨te,hte,hl⟩ : ∃ te:TI,CX.ty (Tryz.zQ.t 23)=some te/\te.aO=[.sc (.str),.sc (.str)]:=⟨_,rfl,rfl⟩
  have:=@wB CX Tryz.prog Tryz.zQ WY Tryz.Em te hte (by rw [hl]; simp) args
  rw [hl] at this
  exact this hne
 | false =>
 rw [h2] at h
 cases h3:Nat.beq f 49 with
 | true =>
  rw [h3] at h; cases h
  have:=Nat.eq_of_beq_eq_true h3
  subst this
  exact Po hne
 | false =>
 rw [h3] at h
 cases h4:Nat.beq f 51 with
 | true =>
  rw [h4] at h; cases h
  have:=Nat.eq_of_beq_eq_true h4
  subst this
  exact Nw hne
 | false =>
 rw [h4] at h
 cases h5:Nat.beq f 76 with
 | true =>
  rw [h5] at h; cases h
  have:=Nat.eq_of_beq_eq_true h5
  subst this
  obtain ⟨te,hte,hl⟩ : ∃ te:TI,CX.ty (Tryz.vK.t 23)=some te/\te.aO=[.sc (.int .i64),.sc (.str),.sc (.str)]:=⟨_,rfl,rfl⟩
  have:=@wB CX Tryz.prog Tryz.vK WY Tryz.Vn te hte (by rw [hl]; simp) args
  rw [hl] at this
  exact this hne
 | false =>
 rw [h5] at h
 cases h6:Nat.beq f 81 with
 | true =>
  rw [h6] at h; cases h
  have:=Nat.eq_of_beq_eq_true h6
  subst this
  exact absurd rfl hne
 | false =>
 rw [h6] at h
 cases h7:Nat.beq f 82 with
 | true =>
  rw [h7] at h; cases h
  have:=Nat.eq_of_beq_eq_true h7
  subst this
  exact absurd rfl hne
 | false =>
 rw [h7] at h
 cases h8:Nat.beq f 83 with
 | true =>
  rw [h8] at h; cases h
  have:=Nat.eq_of_beq_eq_true h8
  subst this
  exact absurd rfl hne
 | false =>
 rw [h8] at h
 cases h9:Nat.beq f 84 with
 | true =>
  rw [h9] at h; cases h
  have:=Nat.eq_of_beq_eq_true h9
  subst this
  exact absurd rfl hne
 | false =>
 rw [h9] at h
 cases h10:Nat.beq f 85 with
 | true =>
  rw [h10] at h; cases h
  have:=Nat.eq_of_beq_eq_true h10
  subst this
  exact absurd rfl hne
 | false =>
 rw [h10] at h
 cases h11:Nat.beq f 92 with
 | true =>
  rw [h11] at h; cases h
  have:=Nat.eq_of_beq_eq_true h11
  subst this
  exact Pk (by decide) (by decide) aep hne
 | false =>
 rw [h11] at h
 cases h12:Nat.beq f 118 with
 | true =>
  rw [h12] at h; cases h
  have:=Nat.eq_of_beq_eq_true h12
  subst this
  obtain ⟨te,hte,hl⟩ : ∃ te:TI,CX.ty (Tryz.sP.t 23)=some te/\te.aO=[.sc (.int .i64)]:=⟨_,rfl,rfl⟩
  have:=@wB CX Tryz.prog Tryz.sP WY Tryz.SX te hte (by rw [hl]; simp) args
  rw [hl] at this
  exact this hne
 | false =>
 rw [h12] at h
 cases h13:Nat.beq f 119 with
 | true =>
  rw [h13] at h; cases h
  have:=Nat.eq_of_beq_eq_true h13
  subst this
  obtain ⟨te,hte,hl⟩ : ∃ te:TI,CX.ty (Tryz.pR.t 23)=some te/\te.aO=[.sc (.int .i64),.sc (.bool)]:=⟨_,rfl,rfl⟩
  have:=@wB CX Tryz.prog Tryz.pR WY Tryz.Kt te hte (by rw [hl]; simp) args
  rw [hl] at this
  exact this hne
 | false =>
 rw [h13] at h
 cases h14:Nat.beq f 184 with
 | true =>
  rw [h14] at h; cases h
  have:=Nat.eq_of_beq_eq_true h14
  subst this
  exact Pm aer hne
 | false=>rw [h14] at h; cases h
theorem own:ownKnob Tryz.prog.godebug=none:=by kernel_rfl
end Go.Proofs.YtpchnmbcbcfhjaaGreat

